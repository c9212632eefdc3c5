/- The law in plain words, part 1. Conditions: none. -/
import Derived.Test.YtjjhhgieolobjaaRes
namespace Go.Sx.R
open Go Go.Sx
def r_spec_DropNode (c_spec_NetOk : ((Int × Int × Int × List (Int × Int × Int)) × Unit → Option Bool)) (c_spec_l01In : (Int × Int × Int × Unit → Option Bool)) (c_spec_l07Near : ((Int × Int × Int × List (Int × Int × Int)) × Int × Unit → Option (List Int))) (c_spec_l07Mesh : ((Int × Int × Int × List (Int × Int × Int)) × Int × Unit → Option ((Int × Int × Int × List (Int × Int × Int)) × Bool))) (_N : Nat) (a0 : (Int × (Int × (Int × (List (Int × (Int × Int))))))) (a1 : Int) : Option ((Int × (Int × (Int × (List (Int × (Int × Int)))))) × Bool) :=
  (Option.bind (c_spec_NetOk (a0, ())) fun (x1 : Bool) =>
  (cond (!x1)
    (some (((0 : Int), ((0 : Int), ((0 : Int), ([] : List (Int × (Int × Int)))))), false))
    (Option.bind (c_spec_l01In (a1, (a0.2.1, ((wr (a0.1 - (1 : Int))), ())))) fun (x2 : Bool) =>
    (cond (!x2)
      (some (((0 : Int), ((0 : Int), ((0 : Int), ([] : List (Int × (Int × Int)))))), false))
      (Option.bind (c_spec_l07Near (a0, (a1, ()))) fun (x3 : (List Int)) =>
      (Option.bind (c_spec_l01In ((((List.length x3) : Nat) : Int), ((1 : Int), ((2 : Int), ())))) fun (x4 : Bool) =>
      (cond (!x4)
        (some (((0 : Int), ((0 : Int), ((0 : Int), ([] : List (Int × (Int × Int)))))), false))
        (Option.bind (c_spec_l07Mesh (a0, (a1, ()))) fun (x5 : ((Int × (Int × (Int × (List (Int × (Int × Int)))))) × Bool)) =>
        (some (x5.1, x5.2))))))))))
noncomputable def e_spec_DropNode (a : (Int × Int × Int × List (Int × Int × Int)) × Int × Unit) : Option ((Int × Int × Int × List (Int × Int × Int)) × Bool) := r_spec_DropNode e_spec_NetOk e_spec_l01In e_spec_l07Near e_spec_l07Mesh N0 a.1 a.2.1
def r_spec_LaplacianOf_L2 (_c_spec_NetOk : ((Int × Int × Int × List (Int × Int × Int)) × Unit → Option Bool)) (c_spec_WeightAt : ((Int × Int × Int × List (Int × Int × Int)) × Int × Unit → Option Int)) (c_spec_WeightBetween : ((Int × Int × Int × List (Int × Int × Int)) × Int × Int × Unit → Option Int)) (_N : Nat) (s : ((Int × (Int × (Int × (List (Int × (Int × Int)))))) × ((List (List Int)) × (Int × ((List Int) × (Int × Unit)))))) (kc ke : ((Int × (Int × (Int × (List (Int × (Int × Int)))))) × ((List (List Int)) × (Int × ((List Int) × (Int × Unit))))) → Option (List (List Int))) : Option (List (List Int)) :=
  (cond (decide (s.2.2.2.2.1 < s.1.1))
    (cond (decide (s.2.2.1 = s.2.2.2.2.1))
      (Option.bind (c_spec_WeightAt (s.1, (s.2.2.1, ()))) fun (x1 : Int) =>
      (cond (Nat.ble ((List.length s.2.2.2.1) + (List.length (x1 :: ([] : List Int)))) 17179869184)
        (kc (s.1, (s.2.1, (s.2.2.1, ((s.2.2.2.1 ++ (x1 :: ([] : List Int))), ((wr (s.2.2.2.2.1 + (1 : Int))), ()))))))
        none))
      (Option.bind (c_spec_WeightBetween (s.1, (s.2.2.1, (s.2.2.2.2.1, ())))) fun (x2 : Int) =>
      (cond (Nat.ble ((List.length s.2.2.2.1) + (List.length ((wr ((0 : Int) - x2)) :: ([] : List Int)))) 17179869184)
        (kc (s.1, (s.2.1, (s.2.2.1, ((s.2.2.2.1 ++ ((wr ((0 : Int) - x2)) :: ([] : List Int))), ((wr (s.2.2.2.2.1 + (1 : Int))), ()))))))
        none)))
    (ke (s.1, (s.2.1, (s.2.2.1, (s.2.2.2.1, (s.2.2.2.2.1, ())))))))
def r_spec_LaplacianOf_L0 (c_spec_NetOk : ((Int × Int × Int × List (Int × Int × Int)) × Unit → Option Bool)) (c_spec_WeightAt : ((Int × Int × Int × List (Int × Int × Int)) × Int × Unit → Option Int)) (c_spec_WeightBetween : ((Int × Int × Int × List (Int × Int × Int)) × Int × Int × Unit → Option Int)) (N : Nat) (s : ((Int × (Int × (Int × (List (Int × (Int × Int)))))) × ((List (List Int)) × (Int × Unit)))) (kc ke : ((Int × (Int × (Int × (List (Int × (Int × Int)))))) × ((List (List Int)) × (Int × Unit))) → Option (List (List Int))) : Option (List (List Int)) :=
  (cond (decide (s.2.2.1 < s.1.1))
    (iterK (r_spec_LaplacianOf_L2 c_spec_NetOk c_spec_WeightAt c_spec_WeightBetween N) N (s.1, (s.2.1, (s.2.2.1, (([] : List Int), ((0 : Int), ()))))) fun (s1 : ((Int × (Int × (Int × (List (Int × (Int × Int)))))) × ((List (List Int)) × (Int × ((List Int) × (Int × Unit)))))) =>
    (cond (Nat.ble ((List.length s1.2.1) + (List.length (s1.2.2.2.1 :: ([] : List (List Int))))) 17179869184)
      (kc (s1.1, ((s1.2.1 ++ (s1.2.2.2.1 :: ([] : List (List Int)))), ((wr (s1.2.2.1 + (1 : Int))), ()))))
      none))
    (ke (s.1, (s.2.1, (s.2.2.1, ())))))
def r_spec_LaplacianOf (c_spec_NetOk : ((Int × Int × Int × List (Int × Int × Int)) × Unit → Option Bool)) (c_spec_WeightAt : ((Int × Int × Int × List (Int × Int × Int)) × Int × Unit → Option Int)) (c_spec_WeightBetween : ((Int × Int × Int × List (Int × Int × Int)) × Int × Int × Unit → Option Int)) (N : Nat) (a0 : (Int × (Int × (Int × (List (Int × (Int × Int))))))) : Option (List (List Int)) :=
  (Option.bind (c_spec_NetOk (a0, ())) fun (x1 : Bool) =>
  (cond (!x1)
    (some ([] : List (List Int)))
    (iterK (r_spec_LaplacianOf_L0 c_spec_NetOk c_spec_WeightAt c_spec_WeightBetween N) N (a0, (([] : List (List Int)), ((0 : Int), ()))) fun (s2 : ((Int × (Int × (Int × (List (Int × (Int × Int)))))) × ((List (List Int)) × (Int × Unit)))) =>
    (some s2.2.1))))
noncomputable def e_spec_LaplacianOf (a : (Int × Int × Int × List (Int × Int × Int)) × Unit) : Option (List (List Int)) := r_spec_LaplacianOf e_spec_NetOk e_spec_WeightAt e_spec_WeightBetween N0 a.1
def r_spec_l06Inner_L0 (_N : Nat) (s : ((Int × (Int × (Int × (List (Int × (Int × Int)))))) × ((List Int) × (Int × Unit)))) (kc ke : ((Int × (Int × (Int × (List (Int × (Int × Int)))))) × ((List Int) × (Int × Unit))) → Option (List Int)) : Option (List Int) :=
  (cond (decide (s.2.2.1 < s.1.1))
    (cond (Nat.ble ((List.length s.2.1) + (List.length (s.2.2.1 :: ([] : List Int)))) 17179869184)
      (kc (s.1, ((s.2.1 ++ (s.2.2.1 :: ([] : List Int))), ((wr (s.2.2.1 + (1 : Int))), ()))))
      none)
    (ke (s.1, (s.2.1, (s.2.2.1, ())))))
def r_spec_l06Inner (N : Nat) (a0 : (Int × (Int × (Int × (List (Int × (Int × Int))))))) : Option (List Int) :=
  (iterK (r_spec_l06Inner_L0 N) N (a0, (([] : List Int), (a0.2.1, ()))) fun (s1 : ((Int × (Int × (Int × (List (Int × (Int × Int)))))) × ((List Int) × (Int × Unit)))) =>
  (some s1.2.1))
noncomputable def e_spec_l06Inner (a : (Int × Int × Int × List (Int × Int × Int)) × Unit) : Option (List Int) := r_spec_l06Inner N0 a.1
def r_spec_l04Det_L0 (c_spec_l04Det : ((List (List Int)) × (List Int) × (List Int) × Unit → Option Int)) (_N : Nat) (s : ((List (List Int)) × ((List Int) × ((List Int) × (Int × (Int × ((List Int) × (Int × (Int × Unit))))))))) (kc ke : ((List (List Int)) × ((List Int) × ((List Int) × (Int × (Int × ((List Int) × (Int × (Int × Unit)))))))) → Option Int) : Option Int :=
  (cond (decide (s.2.2.2.2.2.2.2.1 < s.2.2.2.2.2.2.1))
    (Option.bind (getI s.2.2.2.2.2.1 s.2.2.2.2.2.2.2.1) fun (x1 : Int) =>
    (Option.bind (getI s.2.1 (0 : Int)) fun (x2 : Int) =>
    (Option.bind (getI s.1 x2) fun (x3 : (List Int)) =>
    (Option.bind (getI x3 x1) fun (x4 : Int) =>
    (cond (!(decide (x4 = (0 : Int))))
      (cond (decide ((0 : Int) ≤ s.2.2.2.2.2.2.2.1))
        (cond (decide (s.2.2.2.2.2.2.2.1 ≤ (((List.length s.2.2.1) : Nat) : Int)))
          (cond (Nat.ble ((List.length ([] : List Int)) + (List.length (List.take ((Int.toNat s.2.2.2.2.2.2.2.1) - (Int.toNat (0 : Int))) (List.drop (Int.toNat (0 : Int)) s.2.2.1)))) 17179869184)
            (cond (decide ((0 : Int) ≤ (wr (s.2.2.2.2.2.2.2.1 + (1 : Int)))))
              (cond (decide ((wr (s.2.2.2.2.2.2.2.1 + (1 : Int))) ≤ (((List.length s.2.2.1) : Nat) : Int)))
                (cond (decide ((((List.length s.2.2.1) : Nat) : Int) ≤ (((List.length s.2.2.1) : Nat) : Int)))
                  (cond (Nat.ble ((List.length (([] : List Int) ++ (List.take ((Int.toNat s.2.2.2.2.2.2.2.1) - (Int.toNat (0 : Int))) (List.drop (Int.toNat (0 : Int)) s.2.2.1)))) + (List.length (List.take ((Int.toNat (((List.length s.2.2.1) : Nat) : Int)) - (Int.toNat (wr (s.2.2.2.2.2.2.2.1 + (1 : Int))))) (List.drop (Int.toNat (wr (s.2.2.2.2.2.2.2.1 + (1 : Int)))) s.2.2.1)))) 17179869184)
                    (cond (decide ((1 : Int) ≤ (((List.length s.2.1) : Nat) : Int)))
                      (cond (decide ((((List.length s.2.1) : Nat) : Int) ≤ (((List.length s.2.1) : Nat) : Int)))
                        (Option.bind (c_spec_l04Det (s.1, ((List.take ((Int.toNat (((List.length s.2.1) : Nat) : Int)) - (Int.toNat (1 : Int))) (List.drop (Int.toNat (1 : Int)) s.2.1)), (((([] : List Int) ++ (List.take ((Int.toNat s.2.2.2.2.2.2.2.1) - (Int.toNat (0 : Int))) (List.drop (Int.toNat (0 : Int)) s.2.2.1))) ++ (List.take ((Int.toNat (((List.length s.2.2.1) : Nat) : Int)) - (Int.toNat (wr (s.2.2.2.2.2.2.2.1 + (1 : Int))))) (List.drop (Int.toNat (wr (s.2.2.2.2.2.2.2.1 + (1 : Int)))) s.2.2.1))), ())))) fun (x5 : Int) =>
                        (kc (s.1, (s.2.1, (s.2.2.1, ((wr (s.2.2.2.1 + (wr ((wr (s.2.2.2.2.1 * x4)) * x5)))), ((wr ((0 : Int) - s.2.2.2.2.1)), (s.2.2.2.2.2.1, (s.2.2.2.2.2.2.1, ((wr (s.2.2.2.2.2.2.2.1 + (1 : Int))), ()))))))))))
                        none)
                      none)
                    none)
                  none)
                none)
              none)
            none)
          none)
        none)
      (kc (s.1, (s.2.1, (s.2.2.1, (s.2.2.2.1, ((wr ((0 : Int) - s.2.2.2.2.1)), (s.2.2.2.2.2.1, (s.2.2.2.2.2.2.1, ((wr (s.2.2.2.2.2.2.2.1 + (1 : Int))), ()))))))))))))))
    (ke (s.1, (s.2.1, (s.2.2.1, (s.2.2.2.1, (s.2.2.2.2.1, (s.2.2.2.2.2.1, (s.2.2.2.2.2.2.1, (s.2.2.2.2.2.2.2.1, ()))))))))))
def r_spec_l04Det (c_spec_l04Det : ((List (List Int)) × (List Int) × (List Int) × Unit → Option Int)) (N : Nat) (a0 : (List (List Int))) (a1 : (List Int)) (a2 : (List Int)) : Option Int :=
  (cond (decide ((((List.length a1) : Nat) : Int) = (0 : Int)))
    (some (1 : Int))
    (iterK (r_spec_l04Det_L0 c_spec_l04Det N) N (a0, (a1, (a2, ((0 : Int), ((1 : Int), (a2, ((((List.length a2) : Nat) : Int), ((0 : Int), ())))))))) fun (s1 : ((List (List Int)) × ((List Int) × ((List Int) × (Int × (Int × ((List Int) × (Int × (Int × Unit))))))))) =>
    (some s1.2.2.2.1)))
noncomputable def e_spec_l04Det_n : Nat → ((List (List Int)) × (List Int) × (List Int) × Unit) → Option Int
  | 0, _ => none
  | n + 1, a => r_spec_l04Det (e_spec_l04Det_n n) N0 a.1 a.2.1 a.2.2.1
noncomputable def e_spec_l04Det (a : (List (List Int)) × (List Int) × (List Int) × Unit) : Option Int := e_spec_l04Det_n N0 a
def r_spec_l06Down (c_spec_LaplacianOf : ((Int × Int × Int × List (Int × Int × Int)) × Unit → Option (List (List Int)))) (c_spec_l06Inner : ((Int × Int × Int × List (Int × Int × Int)) × Unit → Option (List Int))) (c_spec_l04Det : ((List (List Int)) × (List Int) × (List Int) × Unit → Option Int)) (_N : Nat) (a0 : (Int × (Int × (Int × (List (Int × (Int × Int))))))) : Option Int :=
  (Option.bind (c_spec_LaplacianOf (a0, ())) fun (x1 : (List (List Int))) =>
  (Option.bind (c_spec_l06Inner (a0, ())) fun (x2 : (List Int)) =>
  (Option.bind (c_spec_l06Inner (a0, ())) fun (x3 : (List Int)) =>
  (Option.bind (c_spec_l04Det (x1, (x2, (x3, ())))) fun (x4 : Int) =>
  (some x4)))))
noncomputable def e_spec_l06Down (a : (Int × Int × Int × List (Int × Int × Int)) × Unit) : Option Int := r_spec_l06Down e_spec_LaplacianOf e_spec_l06Inner e_spec_l04Det N0 a.1
def r_spec_l06Top (c_spec_l06Inner : ((Int × Int × Int × List (Int × Int × Int)) × Unit → Option (List Int))) (c_spec_LaplacianOf : ((Int × Int × Int × List (Int × Int × Int)) × Unit → Option (List (List Int)))) (c_spec_l04Det : ((List (List Int)) × (List Int) × (List Int) × Unit → Option Int)) (_N : Nat) (a0 : (Int × (Int × (Int × (List (Int × (Int × Int))))))) (a1 : Int) (a2 : Int) : Option Int :=
  (Option.bind (c_spec_l06Inner (a0, ())) fun (x1 : (List Int)) =>
  (Option.bind (c_spec_LaplacianOf (a0, ())) fun (x2 : (List (List Int))) =>
  (cond (Nat.ble ((List.length (a1 :: ([] : List Int))) + (List.length x1)) 17179869184)
    (cond (Nat.ble ((List.length (a2 :: ([] : List Int))) + (List.length x1)) 17179869184)
      (Option.bind (c_spec_l04Det (x2, (((a1 :: ([] : List Int)) ++ x1), (((a2 :: ([] : List Int)) ++ x1), ())))) fun (x3 : Int) =>
      (some x3))
      none)
    none)))
noncomputable def e_spec_l06Top (a : (Int × Int × Int × List (Int × Int × Int)) × Int × Int × Unit) : Option Int := r_spec_l06Top e_spec_l06Inner e_spec_LaplacianOf e_spec_l04Det N0 a.1 a.2.1 a.2.2.1
def r_spec_l07First_L0 (_c_spec_NetOk : ((Int × Int × Int × List (Int × Int × Int)) × Unit → Option Bool)) (c_spec_l07Near : ((Int × Int × Int × List (Int × Int × Int)) × Int × Unit → Option (List Int))) (_N : Nat) (s : (Int × ((Int × (Int × (Int × (List (Int × (Int × Int)))))) × (Int × Unit)))) (kc ke : (Int × ((Int × (Int × (Int × (List (Int × (Int × Int)))))) × (Int × Unit))) → Option Int) : Option Int :=
  (cond (decide (s.2.2.1 < s.2.1.1))
    (Option.bind (c_spec_l07Near (s.2.1, (s.2.2.1, ()))) fun (x1 : (List Int)) =>
    (cond (decide ((((List.length x1) : Nat) : Int) = s.1))
      (some s.2.2.1)
      (kc (s.1, (s.2.1, ((wr (s.2.2.1 + (1 : Int))), ()))))))
    (ke (s.1, (s.2.1, (s.2.2.1, ())))))
def r_spec_l07First (c_spec_NetOk : ((Int × Int × Int × List (Int × Int × Int)) × Unit → Option Bool)) (c_spec_l07Near : ((Int × Int × Int × List (Int × Int × Int)) × Int × Unit → Option (List Int))) (N : Nat) (a0 : (Int × (Int × (Int × (List (Int × (Int × Int))))))) (a1 : Int) : Option Int :=
  (Option.bind (c_spec_NetOk (a0, ())) fun (x1 : Bool) =>
  (cond (!x1)
    (some (-(1 : Int)))
    (iterK (r_spec_l07First_L0 c_spec_NetOk c_spec_l07Near N) N (a1, (a0, (a0.2.1, ()))) fun (_s2 : (Int × ((Int × (Int × (Int × (List (Int × (Int × Int)))))) × (Int × Unit)))) =>
    (some (-(1 : Int))))))
noncomputable def e_spec_l07First (a : (Int × Int × Int × List (Int × Int × Int)) × Int × Unit) : Option Int := r_spec_l07First e_spec_NetOk e_spec_l07Near N0 a.1 a.2.1
def r_spec_RatioOk (c_spec_l01In : (Int × Int × Int × Unit → Option Bool)) (c_spec_GcdOf : (Int × Int × Unit → Option Int)) (_N : Nat) (a0 : (Int × Int)) : Option Bool :=
  (Option.bind (c_spec_l01In (a0.2, ((1 : Int), ((1000000000000000 : Int), ())))) fun (x1 : Bool) =>
  (cond x1
    (Option.bind (c_spec_l01In (a0.1, ((-(1000000000000000000 : Int)), ((1000000000000000000 : Int), ())))) fun (x2 : Bool) =>
    (cond x2
      (Option.bind (c_spec_GcdOf (a0.1, (a0.2, ()))) fun (x3 : Int) =>
      (some (decide (x3 = (1 : Int)))))
      (some false)))
    (some false)))
noncomputable def e_spec_RatioOk (a : (Int × Int) × Unit) : Option Bool := r_spec_RatioOk e_spec_l01In e_spec_GcdOf N0 a.1
def r_spec_RatioOf (c_spec_GcdOf : (Int × Int × Unit → Option Int)) (c_spec_RatioOk : ((Int × Int) × Unit → Option Bool)) (_N : Nat) (a0 : Int) (a1 : Int) : Option (Int × Int) :=
  (Option.bind (c_spec_GcdOf (a0, (a1, ()))) fun (x1 : Int) =>
  (cond (decide (x1 = (0 : Int)))
    (some ((0 : Int), (0 : Int)))
    (cond (decide (a1 = (0 : Int)))
      (some ((0 : Int), (0 : Int)))
      (cond (decide (a1 < (0 : Int)))
        (cond (decide ((wr ((0 : Int) - x1)) = (0 : Int)))
          none
          (cond (decide ((wr ((0 : Int) - x1)) = (0 : Int)))
            none
            (Option.bind (c_spec_RatioOk (((wr (Int.tdiv a0 (wr ((0 : Int) - x1)))), (wr (Int.tdiv a1 (wr ((0 : Int) - x1))))), ())) fun (x2 : Bool) =>
            (cond (!x2)
              (some ((0 : Int), (0 : Int)))
              (some ((wr (Int.tdiv a0 (wr ((0 : Int) - x1)))), (wr (Int.tdiv a1 (wr ((0 : Int) - x1))))))))))
        (cond (decide (x1 = (0 : Int)))
          none
          (cond (decide (x1 = (0 : Int)))
            none
            (Option.bind (c_spec_RatioOk (((wr (Int.tdiv a0 x1)), (wr (Int.tdiv a1 x1))), ())) fun (x3 : Bool) =>
            (cond (!x3)
              (some ((0 : Int), (0 : Int)))
              (some ((wr (Int.tdiv a0 x1)), (wr (Int.tdiv a1 x1))))))))))))
noncomputable def e_spec_RatioOf (a : Int × Int × Unit) : Option (Int × Int) := r_spec_RatioOf e_spec_GcdOf e_spec_RatioOk N0 a.1 a.2.1
def r_spec_ResponseOf_L2 (_c_spec_NetOk : ((Int × Int × Int × List (Int × Int × Int)) × Unit → Option Bool)) (_c_spec_l06Down : ((Int × Int × Int × List (Int × Int × Int)) × Unit → Option Int)) (c_spec_l06Top : ((Int × Int × Int × List (Int × Int × Int)) × Int × Int × Unit → Option Int)) (c_spec_RatioOf : (Int × Int × Unit → Option (Int × Int))) (_N : Nat) (s : ((Int × (Int × (Int × (List (Int × (Int × Int)))))) × (Int × ((List (List (Int × Int))) × (Int × ((List (Int × Int)) × (Int × Unit))))))) (kc ke : ((Int × (Int × (Int × (List (Int × (Int × Int)))))) × (Int × ((List (List (Int × Int))) × (Int × ((List (Int × Int)) × (Int × Unit)))))) → Option ((List (List (Int × Int))) × Bool)) : Option ((List (List (Int × Int))) × Bool) :=
  (cond (decide (s.2.2.2.2.2.1 < s.1.2.1))
    (Option.bind (c_spec_l06Top (s.1, (s.2.2.2.1, (s.2.2.2.2.2.1, ())))) fun (x1 : Int) =>
    (Option.bind (c_spec_RatioOf (x1, (s.2.1, ()))) fun (x2 : (Int × Int)) =>
    (cond (Nat.ble ((List.length s.2.2.2.2.1) + (List.length (x2 :: ([] : List (Int × Int))))) 17179869184)
      (kc (s.1, (s.2.1, (s.2.2.1, (s.2.2.2.1, ((s.2.2.2.2.1 ++ (x2 :: ([] : List (Int × Int)))), ((wr (s.2.2.2.2.2.1 + (1 : Int))), ())))))))
      none)))
    (ke (s.1, (s.2.1, (s.2.2.1, (s.2.2.2.1, (s.2.2.2.2.1, (s.2.2.2.2.2.1, ()))))))))
def r_spec_ResponseOf_L0 (c_spec_NetOk : ((Int × Int × Int × List (Int × Int × Int)) × Unit → Option Bool)) (c_spec_l06Down : ((Int × Int × Int × List (Int × Int × Int)) × Unit → Option Int)) (c_spec_l06Top : ((Int × Int × Int × List (Int × Int × Int)) × Int × Int × Unit → Option Int)) (c_spec_RatioOf : (Int × Int × Unit → Option (Int × Int))) (N : Nat) (s : ((Int × (Int × (Int × (List (Int × (Int × Int)))))) × (Int × ((List (List (Int × Int))) × (Int × Unit))))) (kc ke : ((Int × (Int × (Int × (List (Int × (Int × Int)))))) × (Int × ((List (List (Int × Int))) × (Int × Unit)))) → Option ((List (List (Int × Int))) × Bool)) : Option ((List (List (Int × Int))) × Bool) :=
  (cond (decide (s.2.2.2.1 < s.1.2.1))
    (iterK (r_spec_ResponseOf_L2 c_spec_NetOk c_spec_l06Down c_spec_l06Top c_spec_RatioOf N) N (s.1, (s.2.1, (s.2.2.1, (s.2.2.2.1, (([] : List (Int × Int)), ((0 : Int), ())))))) fun (s1 : ((Int × (Int × (Int × (List (Int × (Int × Int)))))) × (Int × ((List (List (Int × Int))) × (Int × ((List (Int × Int)) × (Int × Unit))))))) =>
    (cond (Nat.ble ((List.length s1.2.2.1) + (List.length (s1.2.2.2.2.1 :: ([] : List (List (Int × Int)))))) 17179869184)
      (kc (s1.1, (s1.2.1, ((s1.2.2.1 ++ (s1.2.2.2.2.1 :: ([] : List (List (Int × Int))))), ((wr (s1.2.2.2.1 + (1 : Int))), ())))))
      none))
    (ke (s.1, (s.2.1, (s.2.2.1, (s.2.2.2.1, ()))))))
def r_spec_ResponseOf (c_spec_NetOk : ((Int × Int × Int × List (Int × Int × Int)) × Unit → Option Bool)) (c_spec_l06Down : ((Int × Int × Int × List (Int × Int × Int)) × Unit → Option Int)) (c_spec_l06Top : ((Int × Int × Int × List (Int × Int × Int)) × Int × Int × Unit → Option Int)) (c_spec_RatioOf : (Int × Int × Unit → Option (Int × Int))) (N : Nat) (a0 : (Int × (Int × (Int × (List (Int × (Int × Int))))))) : Option ((List (List (Int × Int))) × Bool) :=
  (Option.bind (c_spec_NetOk (a0, ())) fun (x1 : Bool) =>
  (cond (!x1)
    (some (([] : List (List (Int × Int))), false))
    (Option.bind (c_spec_l06Down (a0, ())) fun (x2 : Int) =>
    (iterK (r_spec_ResponseOf_L0 c_spec_NetOk c_spec_l06Down c_spec_l06Top c_spec_RatioOf N) N (a0, ((wr (a0.2.2.1 * x2)), (([] : List (List (Int × Int))), ((0 : Int), ())))) fun (s3 : ((Int × (Int × (Int × (List (Int × (Int × Int)))))) × (Int × ((List (List (Int × Int))) × (Int × Unit))))) =>
    (some (s3.2.2.1, true))))))
noncomputable def e_spec_ResponseOf (a : (Int × Int × Int × List (Int × Int × Int)) × Unit) : Option ((List (List (Int × Int))) × Bool) := r_spec_ResponseOf e_spec_NetOk e_spec_l06Down e_spec_l06Top e_spec_RatioOf N0 a.1
def r_spec_l06Current_L0 (c_spec_l06Top : ((Int × Int × Int × List (Int × Int × Int)) × Int × Int × Unit → Option Int)) (_N : Nat) (s : (Int × ((Int × (Int × (Int × (List (Int × (Int × Int)))))) × (Int × ((List Int) × (Int × (Int × Unit))))))) (kc ke : (Int × ((Int × (Int × (Int × (List (Int × (Int × Int)))))) × (Int × ((List Int) × (Int × (Int × Unit)))))) → Option Int) : Option Int :=
  (cond (decide (s.2.2.2.2.2.1 < s.2.2.2.2.1))
    (Option.bind (getI s.2.2.2.1 s.2.2.2.2.2.1) fun (x1 : Int) =>
    (Option.bind (c_spec_l06Top (s.2.1, (s.1, (s.2.2.2.2.2.1, ())))) fun (x2 : Int) =>
    (kc (s.1, (s.2.1, ((wr (s.2.2.1 + (wr (x1 * x2)))), (s.2.2.2.1, (s.2.2.2.2.1, ((wr (s.2.2.2.2.2.1 + (1 : Int))), ())))))))))
    (ke (s.1, (s.2.1, (s.2.2.1, (s.2.2.2.1, (s.2.2.2.2.1, (s.2.2.2.2.2.1, ()))))))))
def r_spec_l06Current (c_spec_l06Top : ((Int × Int × Int × List (Int × Int × Int)) × Int × Int × Unit → Option Int)) (N : Nat) (a0 : (Int × (Int × (Int × (List (Int × (Int × Int))))))) (a1 : (List Int)) (a2 : Int) : Option Int :=
  (iterK (r_spec_l06Current_L0 c_spec_l06Top N) N (a2, (a0, ((0 : Int), (a1, ((((List.length a1) : Nat) : Int), ((0 : Int), ())))))) fun (s1 : (Int × ((Int × (Int × (Int × (List (Int × (Int × Int)))))) × (Int × ((List Int) × (Int × (Int × Unit))))))) =>
  (some s1.2.2.1))
noncomputable def e_spec_l06Current (a : (Int × Int × Int × List (Int × Int × Int)) × (List Int) × Int × Unit) : Option Int := r_spec_l06Current e_spec_l06Top N0 a.1 a.2.1 a.2.2.1
def r_spec_l04Without_L0 (c_spec_l03Has : ((List Int) × Int × Unit → Option Bool)) (_N : Nat) (s : (Int × ((List Int) × ((List Int) × (Int × Unit))))) (kc ke : (Int × ((List Int) × ((List Int) × (Int × Unit)))) → Option (List Int)) : Option (List Int) :=
  (cond (decide (s.2.2.2.1 < s.1))
    (Option.bind (c_spec_l03Has (s.2.1, (s.2.2.2.1, ()))) fun (x1 : Bool) =>
    (cond (!x1)
      (cond (Nat.ble ((List.length s.2.2.1) + (List.length (s.2.2.2.1 :: ([] : List Int)))) 17179869184)
        (kc (s.1, (s.2.1, ((s.2.2.1 ++ (s.2.2.2.1 :: ([] : List Int))), ((wr (s.2.2.2.1 + (1 : Int))), ())))))
        none)
      (kc (s.1, (s.2.1, (s.2.2.1, ((wr (s.2.2.2.1 + (1 : Int))), ())))))))
    (ke (s.1, (s.2.1, (s.2.2.1, (s.2.2.2.1, ()))))))
def r_spec_l04Without (c_spec_l03Has : ((List Int) × Int × Unit → Option Bool)) (N : Nat) (a0 : Int) (a1 : (List Int)) : Option (List Int) :=
  (iterK (r_spec_l04Without_L0 c_spec_l03Has N) N (a0, (a1, (([] : List Int), ((0 : Int), ())))) fun (s1 : (Int × ((List Int) × ((List Int) × (Int × Unit))))) =>
  (some s1.2.2.1))
noncomputable def e_spec_l04Without (a : Int × (List Int) × Unit) : Option (List Int) := r_spec_l04Without e_spec_l03Has N0 a.1 a.2.1
def r_spec_l04Minor (c_spec_LaplacianOf : ((Int × Int × Int × List (Int × Int × Int)) × Unit → Option (List (List Int)))) (c_spec_l04Without : (Int × (List Int) × Unit → Option (List Int))) (c_spec_l04Det : ((List (List Int)) × (List Int) × (List Int) × Unit → Option Int)) (_N : Nat) (a0 : (Int × (Int × (Int × (List (Int × (Int × Int))))))) (a1 : (List Int)) (a2 : (List Int)) : Option Int :=
  (Option.bind (c_spec_LaplacianOf (a0, ())) fun (x1 : (List (List Int))) =>
  (Option.bind (c_spec_l04Without (a0.1, (a1, ()))) fun (x2 : (List Int)) =>
  (Option.bind (c_spec_l04Without (a0.1, (a2, ()))) fun (x3 : (List Int)) =>
  (Option.bind (c_spec_l04Det (x1, (x2, (x3, ())))) fun (x4 : Int) =>
  (some x4)))))
noncomputable def e_spec_l04Minor (a : (Int × Int × Int × List (Int × Int × Int)) × (List Int) × (List Int) × Unit) : Option Int := r_spec_l04Minor e_spec_LaplacianOf e_spec_l04Without e_spec_l04Det N0 a.1 a.2.1 a.2.2.1
end Go.Sx.R
namespace Go.Sx.R
open Go Go.Sx
theorem beqB_self (b : Bool) : beqB b b = true := by cases b <;> rfl
theorem sm_up {α : Type} [Sm α] (up : ∀ {B B' : Nat} {x : α}, B ≤ B' → Sm.sm B x → Sm.sm B' x) {B B' : Nat} {x : List α} (h : B ≤ B') (hx : Sm.sm B x) : Sm.sm B' x := ⟨Nat.le_trans hx.1 h, fun y hy => up h (hx.2 y hy)⟩
theorem up_wire {B B' : Nat} {x : Int × Int × Int} (h : B ≤ B') (hx : Sm.sm B x) : Sm.sm B' x := hx
theorem up_wireS {B B' : Nat} {x : List (Int × Int × Int)} (h : B ≤ B') (hx : Sm.sm B x) : Sm.sm B' x := sm_up up_wire h hx
abbrev TNet := Int × Int × Int × List (Int × Int × Int)
theorem up_net {B B' : Nat} {x : TNet} (h : B ≤ B') (hx : Sm.sm B x) : Sm.sm B' x := ⟨hx.1, hx.2.1, hx.2.2.1, up_wireS h hx.2.2.2⟩
abbrev B0 : Nat := 1048576
theorem B01 : B0 ≤ B1 := by decide
end Go.Sx.R
namespace Go.Sx.R
open Go Go.Sx
def n_l01In (a : Int × Int × Int × Unit) : Bool := decide (a.2.1 ≤ a.1) && decide (a.1 ≤ a.2.2.1)
theorem p_l01In (a : Int × Int × Int × Unit) : e_spec_l01In a = some (n_l01In a) := by
  obtain ⟨a0, a1, a2, _⟩ := a
  simp only [e_spec_l01In, r_spec_l01In, n_l01In]
  by_cases h : a1 ≤ a0 <;> simp [h]
end Go.Sx.R
namespace Go.Sx.R
open Go Go.Sx
theorem nodup_len {α : Type} [DecidableEq α] : ∀ {l m : List α}, l.Nodup → (∀ x ∈ l, x ∈ m) → l.length ≤ m.length
  | [], m, _, _ => Nat.zero_le _
  | x :: l, m, h, hs => by
    have hx : x ∈ m := hs x (by simp)
    have hd := List.nodup_cons.1 h
    have := nodup_len (l := l) (m := m.erase x) hd.2 fun y hy => (List.mem_erase_of_ne (by rintro rfl; exact hd.1 hy)).2 (hs y (by simp [hy]))
    rw [List.length_erase_of_mem hx] at this
    have hp : 0 < m.length := List.length_pos_of_mem hx
    simp only [List.length_cons]; omega
theorem nodup_all {α : Type} [DecidableEq α] {l m : List α} (h : l.Nodup) (hs : ∀ x ∈ l, x ∈ m) (hl : m.length ≤ l.length) : ∀ x ∈ m, x ∈ l := by
  intro x hx
  by_cases hxl : x ∈ l
  · exact hxl
  · have := nodup_len (l := x :: l) (m := m) (List.nodup_cons.2 ⟨hxl, h⟩) (by
      intro y hy
      rcases List.mem_cons.1 hy with rfl | hy
      · exact hx
      · exact hs y hy)
    simp at this; omega
def ints (n : Nat) : List Int := (List.range n).map Int.ofNat
theorem mem_ints {n : Nat} {x : Int} : x ∈ ints n ↔ 0 ≤ x ∧ x < n := by
  simp only [ints, List.mem_map, List.mem_range]
  constructor
  · rintro ⟨i, hi, rfl⟩
    simp only [Int.ofNat_eq_natCast]; omega
  · intro h; exact ⟨x.toNat, by omega, by simp only [Int.ofNat_eq_natCast]; omega⟩
theorem len_ints {n : Nat} : (ints n).length = n := by simp [ints]
theorem nodup_ints {n : Nat} : (ints n).Nodup := by
  refine List.Pairwise.map Int.ofNat (fun (a b : Nat) (h : a ≠ b) => ?_) (List.nodup_range (n := n))
  intro e
  simp only [Int.ofNat_eq_natCast] at e
  exact h (by omega)
abbrev W3 := Int × Int × Int
theorem p_Has (xs : List Int) (v : Int) (hl : xs.length ≤ BB) : e_spec_l03Has (xs, v, ()) = some (decide (v ∈ xs)) := by
  simp only [e_spec_l03Has, r_spec_l03Has]
  rw [iter_range (R := Bool) xs (fun (_ : Unit) i => (v, xs, (xs.length : Int), i, ())) (fun _ i x k => cond (decide (x = v)) (some true) (k ())) ?_ ?_ (by have := N0_gt; omega) ()]
  · rw [rangeK_stop' (fun x => decide (x = v)) (some true) _ _ _ (fun _ _ _ _ => rfl)]
    have : xs.any (fun x => decide (x = v)) = decide (v ∈ xs) := by
      rw [Bool.eq_iff_iff]; simp
    rw [this]; cases decide (v ∈ xs) <;> rfl
  · intro st i x kc ke hx hi
    simp only [r_spec_l03Has_L0, lt_len, hi, decide_true, cond_true, getI_nat, hx, Option.bind_some]
    rw [wr_succ hi hl]
  · intro st kc ke
    simp only [r_spec_l03Has_L0, not_lt_self, cond_false]
theorem p_ContainsB (xs : List Bool) (v : Bool) (hl : xs.length ≤ BB) : e_slices_Contains_bool (xs, v, ()) = some (decide (v ∈ xs)) := by
  simp only [e_slices_Contains_bool, r_slices_Contains_bool, e_slices_Index_bool, r_slices_Index_bool]
  rw [iter_range (R := Int) xs (fun (_ : Unit) i => (xs, v, (xs.length : Int), i, ())) (fun _ i x k => cond (beqB v x) (some (i : Int)) (k ())) ?_ ?_ (by have := N0_gt; omega) ()]
  · have key : ∀ (l : List Bool) (i : Nat), (rangeK l i () (fun _ i x k => cond (beqB v x) (some (i : Int)) (k ())) fun _ => some (-1 : Int)).bind (fun r => some (decide (r ≥ 0))) = some (decide (v ∈ l)) := by
      intro l
      induction l with
      | nil => intro i; simp [rangeK]
      | cons x l ih =>
        intro i
        simp only [rangeK]
        by_cases e : v = x
        · subst e; rw [beqB_self]; simp
        · have : beqB v x = false := by revert e; cases v <;> cases x <;> simp [beqB]
          rw [this, cond_false, ih (i + 1)]
          simp [e]
    exact key xs 0
  · intro st i x kc ke hx hi
    simp only [r_slices_Index_bool_L0, lt_len, hi, decide_true, cond_true, getI_nat, hx, Option.bind_some]
    rw [wr_succ hi hl]
  · intro st kc ke
    simp only [r_slices_Index_bool_L0, not_lt_self, cond_false]
def n_cmp (x y : Int) : Int := if x < y then -1 else if x > y then 1 else 0
theorem p_Compare (x y : Int) : e_cmp_Compare_int (x, y, ()) = some (n_cmp x y) := by
  simp only [e_cmp_Compare_int, r_cmp_Compare_int, e_cmp_isNaN_int, r_cmp_isNaN_int, Option.bind_some, decide_true, Bool.not_true, cond_false, n_cmp]
  by_cases h1 : x < y
  · simp [h1]
  · by_cases h2 : x > y <;> simp [h1, h2]
theorem N0_big : 9223372036854775807 < N0 := N0_gt
theorem N0_succ : ∃ m, N0 = m + 5 := ⟨N0 - 5, by have := N0_big; omega⟩
def n_byEnds (x y : W3) : Int := if n_cmp x.1 y.1 = 0 then n_cmp x.2.1 y.2.1 else n_cmp x.1 y.1
theorem p_byEnds (x y : W3) : e_impl_byEnds (x, y, ()) = some (n_byEnds x y) := by
  simp only [e_impl_byEnds, r_impl_byEnds, p_Compare, Option.bind_some, e_cmp_Or_int, r_cmp_Or_int, n_byEnds]
  obtain ⟨m, hm⟩ := N0_succ
  rw [hm]
  by_cases h1 : n_cmp x.1 y.1 = 0
  · by_cases h2 : n_cmp x.2.1 y.2.1 = 0
    · simp [iterK, r_cmp_Or_int_L0, h1, h2, getI_zero, wr_id, getI]
    · simp [iterK, r_cmp_Or_int_L0, h1, h2, getI_zero, wr_id, getI]
  · simp [iterK, r_cmp_Or_int_L0, h1, getI_zero]
def lex (x y : W3) : Bool := decide (x.1 < y.1) || (decide (x.1 = y.1) && decide (x.2.1 < y.2.1))
theorem byEnds_lex (x y : W3) : decide (n_byEnds x y ≥ 0) = !lex x y := by
  rw [Bool.eq_iff_iff]
  by_cases a : x.1 < y.1
  · have a2 : ¬ x.1 > y.1 := by omega
    simp [n_byEnds, n_cmp, lex, a]
  · by_cases b : x.1 > y.1
    · have e : ¬ x.1 = y.1 := by omega
      simp [n_byEnds, n_cmp, lex, a, b, e]
    · have e : x.1 = y.1 := by omega
      by_cases c : x.2.1 < y.2.1
      · simp [n_byEnds, n_cmp, lex, e, c]
      · by_cases d : x.2.1 > y.2.1 <;> simp [n_byEnds, n_cmp, lex, e, c, d]
def badW (nodes : Int) (ws : List W3) (i : Nat) (x : W3) : Bool :=
  !(decide (0 ≤ x.1) && decide (x.1 < x.2.1) && decide (x.2.1 < nodes) && decide (1 ≤ x.2.2) && decide (x.2.2 ≤ 200)) || (match i with | 0 => false | j + 1 => match ws[j]? with | some y => !lex y x | none => false)
def wiresBad (n : TNet) : Bool := (n.2.2.2.zipIdx 0).any fun p => badW n.1 n.2.2.2 p.2 p.1
def hdrOk (n : TNet) : Bool := decide (1 ≤ n.1) && decide (n.1 ≤ 5) && decide (1 ≤ n.2.1) && decide (n.2.1 ≤ n.1) && decide (1 ≤ n.2.2.1) && decide (n.2.2.1 ≤ 1000)
theorem netL0_impl (n : TNet) (hn : Sm.sm B1 n) (k : _ → Option Bool) :
    iterK (r_impl_NetOk_L0 e_slices_Contains_bool e_impl_byEnds N0) N0 (n, n.2.2.2, (n.2.2.2.length : Int), 0, ()) k = cond (wiresBad n) (some false) (k (n, n.2.2.2, (n.2.2.2.length : Int), (n.2.2.2.length : Int), ())) := by
  have hw : Sm.sm B1 n.2.2.2 := hn.2.2.2
  rw [iter_range (R := Bool) n.2.2.2 (fun (_ : Unit) i => (n, n.2.2.2, (n.2.2.2.length : Int), i, ())) (fun _ i x k => cond (badW n.1 n.2.2.2 i x) (some false) (k ())) ?_ ?_ (len_lt hw N0_gt) ()]
  · rw [rangeK_stop (fun i x => badW n.1 n.2.2.2 i x) (some false) _ _ _ (fun j x k _ => rfl)]
    rfl
  · intro st i x kc ke hx hi
    simp only [r_impl_NetOk_L0, lt_len, hi, decide_true, cond_true, getI_nat, hx, Option.bind_some, wr_len hi hw]
    have hb : ∀ b : Bool, (decide (x.1 < 0) = true → b = true) → True := fun _ _ => trivial
    by_cases h1 : x.1 < 0
    · have : badW n.1 n.2.2.2 i x = true := by simp only [badW, Bool.or_eq_true, Bool.not_eq_true', Bool.and_eq_false_iff, decide_eq_false_iff_not]; left; omega
      simp [h1, this]
    by_cases h2 : x.1 ≥ x.2.1
    · have : badW n.1 n.2.2.2 i x = true := by simp only [badW, Bool.or_eq_true, Bool.not_eq_true', Bool.and_eq_false_iff, decide_eq_false_iff_not]; left; omega
      simp [h1, h2, this]
    by_cases h3 : x.2.1 ≥ n.1
    · have : badW n.1 n.2.2.2 i x = true := by simp only [badW, Bool.or_eq_true, Bool.not_eq_true', Bool.and_eq_false_iff, decide_eq_false_iff_not]; left; omega
      simp [h1, h2, h3, this]
    by_cases h4 : x.2.2 < 1
    · have : badW n.1 n.2.2.2 i x = true := by simp only [badW, Bool.or_eq_true, Bool.not_eq_true', Bool.and_eq_false_iff, decide_eq_false_iff_not]; left; omega
      simp [h1, h2, h3, h4, this]
    by_cases h5 : x.2.2 > 200
    · have : badW n.1 n.2.2.2 i x = true := by simp only [badW, Bool.or_eq_true, Bool.not_eq_true', Bool.and_eq_false_iff, decide_eq_false_iff_not]; left; omega
      simp [h1, h2, h3, h4, h5, this]
    have hg : (!(decide (0 ≤ x.1) && decide (x.1 < x.2.1) && decide (x.2.1 < n.1) && decide (1 ≤ x.2.2) && decide (x.2.2 ≤ 200))) = false := by
      simp only [Bool.not_eq_false', Bool.and_eq_true, decide_eq_true_eq]; omega
    cases i with
    | zero =>
      have hbad : badW n.1 n.2.2.2 0 x = false := by simp only [badW, hg, Bool.or_false]
      simp [h1, h2, h3, h4, h5, hbad]
    | succ j =>
      have hj : n.2.2.2[j]? = some n.2.2.2[j] := List.getElem?_eq_getElem (by omega)
      have hbad : badW n.1 n.2.2.2 (j + 1) x = !lex n.2.2.2[j] x := by simp only [badW, hg, Bool.false_or, hj]
      have hwr : wr (((j + 1 : Nat) : Int) - 1) = (j : Int) := by
        rw [wr_id (by omega) (by have := hw.1; simp only [B1] at this; omega)]; omega
      have hpos : decide (((j + 1 : Nat) : Int) > 0) = true := by rw [decide_eq_true_eq]; omega
      rw [hbad, hpos, hwr, getI_nat, hj]
      simp only [cond_true, Option.bind_some, p_byEnds, byEnds_lex]
      simp [h1, h2, h3, h4, h5]
  · intro st kc ke
    simp only [r_impl_NetOk_L0, not_lt_self, cond_false]
theorem netL0_spec (n : TNet) (hn : Sm.sm B1 n) (k : _ → Option Bool) (hn1 : 1 ≤ n.1) (hn5 : n.1 ≤ 5) :
    iterK (r_spec_NetOk_L0 e_spec_l01In e_spec_l03Reach N0) N0 (n, n.2.2.2, (n.2.2.2.length : Int), 0, ()) k = cond (wiresBad n) (some false) (k (n, n.2.2.2, (n.2.2.2.length : Int), (n.2.2.2.length : Int), ())) := by
  have hw : Sm.sm B1 n.2.2.2 := hn.2.2.2
  rw [iter_range (R := Bool) n.2.2.2 (fun (_ : Unit) i => (n, n.2.2.2, (n.2.2.2.length : Int), i, ())) (fun _ i x k => cond (badW n.1 n.2.2.2 i x) (some false) (k ())) ?_ ?_ (len_lt hw N0_gt) ()]
  · rw [rangeK_stop (fun i x => badW n.1 n.2.2.2 i x) (some false) _ _ _ (fun j x k _ => rfl)]
    rfl
  · intro st i x kc ke hx hi
    simp only [r_spec_NetOk_L0, lt_len, hi, decide_true, cond_true, getI_nat, hx, Option.bind_some, wr_len hi hw, p_l01In, n_l01In]
    have hw1 : wr (n.1 - 1) = n.1 - 1 := wr_id (by omega) (by omega)
    rw [hw1]
    by_cases h1 : 0 ≤ x.1 ∧ x.1 ≤ n.1 - 1
    · have hw2 : wr (x.1 + 1) = x.1 + 1 := wr_id (by omega) (by omega)
      rw [hw2]
      by_cases h2 : x.1 + 1 ≤ x.2.1 ∧ x.2.1 ≤ n.1 - 1
      · by_cases h3 : 1 ≤ x.2.2 ∧ x.2.2 ≤ 200
        · have hg : (!(decide (0 ≤ x.1) && decide (x.1 < x.2.1) && decide (x.2.1 < n.1) && decide (1 ≤ x.2.2) && decide (x.2.2 ≤ 200))) = false := by
            simp only [Bool.not_eq_false', Bool.and_eq_true, decide_eq_true_eq]; omega
          cases i with
          | zero =>
            have hbad : badW n.1 n.2.2.2 0 x = false := by simp only [badW, hg, Bool.or_false]
            simp [h1, h2, h3, hbad]
          | succ j =>
            have hj : n.2.2.2[j]? = some n.2.2.2[j] := List.getElem?_eq_getElem (by omega)
            have hbad : badW n.1 n.2.2.2 (j + 1) x = !lex n.2.2.2[j] x := by simp only [badW, hg, Bool.false_or, hj]
            have hwr : wr (((j + 1 : Nat) : Int) - 1) = (j : Int) := by
              rw [wr_id (by omega) (by have := hw.1; simp only [B1] at this; omega)]; omega
            have hpos : decide (((j + 1 : Nat) : Int) > 0) = true := by rw [decide_eq_true_eq]; omega
            rw [hbad, hpos, hwr, getI_nat, hj]
            simp only [cond_true, Option.bind_some, h1, h2, h3, decide_true, Bool.and_self, Bool.not_true, cond_false, lex]
            by_cases e1 : x.1 < n.2.2.2[j].1
            · have a1 : ¬ n.2.2.2[j].1 < x.1 := by omega
              have a2 : ¬ n.2.2.2[j].1 = x.1 := by omega
              simp [e1, a1, a2]
            · by_cases e2 : x.1 = n.2.2.2[j].1
              · by_cases e3 : x.2.1 ≤ n.2.2.2[j].2.1
                · have a3 : ¬ n.2.2.2[j].2.1 < x.2.1 := by omega
                  simp [e2, e3, a3]
                · have a3 : n.2.2.2[j].2.1 < x.2.1 := by omega
                  simp [e2, e3, a3]
              · have a1 : n.2.2.2[j].1 < x.1 := by omega
                simp [e1, e2, a1]
        · have : badW n.1 n.2.2.2 i x = true := by simp only [badW, Bool.or_eq_true, Bool.not_eq_true', Bool.and_eq_false_iff, decide_eq_false_iff_not]; left; omega
          have h3' : (decide (1 ≤ x.2.2) && decide (x.2.2 ≤ 200)) = false := by simp only [Bool.and_eq_false_iff, decide_eq_false_iff_not]; omega
          simp [h1, h2, h3', this]
      · have : badW n.1 n.2.2.2 i x = true := by simp only [badW, Bool.or_eq_true, Bool.not_eq_true', Bool.and_eq_false_iff, decide_eq_false_iff_not]; left; omega
        have h2' : (decide (x.1 + 1 ≤ x.2.1) && decide (x.2.1 ≤ n.1 - 1)) = false := by simp only [Bool.and_eq_false_iff, decide_eq_false_iff_not]; omega
        simp [h1, h2', this]
    · have : badW n.1 n.2.2.2 i x = true := by simp only [badW, Bool.or_eq_true, Bool.not_eq_true', Bool.and_eq_false_iff, decide_eq_false_iff_not]; left; omega
      have h1' : (decide (0 ≤ x.1) && decide (x.1 ≤ n.1 - 1)) = false := by simp only [Bool.and_eq_false_iff, decide_eq_false_iff_not]; omega
      simp [h1', this]
  · intro st kc ke
    simp only [r_spec_NetOk_L0, not_lt_self, cond_false]
inductive Rc (ws : List W3) : Int → Prop
  | zero : Rc ws 0
  | ab {e : W3} : e ∈ ws → Rc ws e.1 → Rc ws e.2.1
  | ba {e : W3} : e ∈ ws → Rc ws e.2.1 → Rc ws e.1
def InW (nodes : Nat) (ws : List W3) : Prop := ∀ e ∈ ws, 0 ≤ e.1 ∧ e.1 < e.2.1 ∧ e.2.1 < nodes
theorem Rc.inn {nodes : Nat} {ws : List W3} (h0 : 0 < nodes) (hw : InW nodes ws) {v : Int} (h : Rc ws v) : 0 ≤ v ∧ v < nodes := by
  cases h with
  | zero => omega
  | ab he _ => have := hw _ he; omega
  | ba he _ => have := hw _ he; omega
def gt (st : List Bool) (v : Int) : Bool := (st[v.toNat]?).getD false
def upd (st : List Bool) (e : W3) : List Bool := if gt st e.1 = true ∨ gt st e.2.1 = true then (st.set e.1.toNat true).set e.2.1.toNat true else st
def cnt (st : List Bool) : Nat := (st.filter id).length
theorem cnt_le (st : List Bool) : cnt st ≤ st.length := List.length_filter_le _ _
theorem cnt_set : ∀ (st : List Bool) (i : Nat), cnt st ≤ cnt (st.set i true) ∧ (st[i]? = some false → cnt st + 1 ≤ cnt (st.set i true))
  | [], i => by simp [cnt]
  | b :: st, 0 => by cases b <;> simp [cnt]
  | b :: st, i + 1 => by
    have := cnt_set st i
    cases b <;> simp_all [cnt]
theorem gt_set (st : List Bool) (i : Nat) (v : Int) : gt (st.set i true) v = (gt st v || (decide (i = v.toNat) && decide (i < st.length))) := by
  simp only [gt, List.getElem?_set]
  by_cases e : i = v.toNat
  · subst e
    by_cases h : v.toNat < st.length
    · simp [h]
    · simp [h]
  · simp [e]
theorem upd_len (st : List Bool) (e : W3) : (upd st e).length = st.length := by
  unfold upd; split <;> simp
theorem upd_mono {st : List Bool} {e : W3} {v : Int} (h : gt st v = true) : gt (upd st e) v = true := by
  unfold upd; split
  · simp [gt_set, h]
  · exact h
theorem upd_sound {ws : List W3} {st : List Bool} {e : W3} {nodes : Nat} (hl : st.length = nodes) (hw : InW nodes ws) (he : e ∈ ws) (h : ∀ v, 0 ≤ v → gt st v = true → Rc ws v) : ∀ v, 0 ≤ v → gt (upd st e) v = true → Rc ws v := by
  intro v hv hg
  obtain ⟨h1, h2, h3⟩ := hw e he
  unfold upd at hg
  split at hg
  · rename_i hor
    have ha : Rc ws e.1 ∧ Rc ws e.2.1 := by
      rcases hor with hor | hor
      · have := h _ h1 hor; exact ⟨this, .ab he this⟩
      · have := h _ (by omega) hor; exact ⟨.ba he this, this⟩
    simp only [gt_set, Bool.or_eq_true, Bool.and_eq_true, decide_eq_true_eq] at hg
    rcases hg with (hg | hg) | hg
    · exact h v hv hg
    · have : e.1 = v := by omega
      rw [← this]; exact ha.1
    · have : e.2.1 = v := by omega
      rw [← this]; exact ha.2
  · exact h v hv hg
theorem gt_false {st : List Bool} {v : Int} (h : gt st v = false) (hl : v.toNat < st.length) : st[v.toNat]? = some false := by
  have : st[v.toNat]? = some st[v.toNat] := List.getElem?_eq_getElem hl
  unfold gt at h
  rw [this] at h ⊢
  simpa using h
theorem upd_cnt (st : List Bool) (e : W3) : cnt st ≤ cnt (upd st e) := by
  unfold upd; split
  · exact Nat.le_trans (cnt_set st _).1 (cnt_set _ _).1
  · exact Nat.le_refl _
theorem upd_grow {st : List Bool} {e : W3} {nodes : Nat} (hl : st.length = nodes) (hi : 0 ≤ e.1 ∧ e.1 < e.2.1 ∧ e.2.1 < nodes) (h : gt st e.1 ≠ gt st e.2.1) : cnt st + 1 ≤ cnt (upd st e) := by
  have hor : gt st e.1 = true ∨ gt st e.2.1 = true := by
    revert h; cases gt st e.1 <;> cases gt st e.2.1 <;> simp
  unfold upd
  rw [if_pos hor]
  by_cases h1 : gt st e.1 = true
  · have h2 : gt st e.2.1 = false := by
      revert h; rw [h1]; cases gt st e.2.1 <;> simp
    have : gt (st.set e.1.toNat true) e.2.1 = false := by
      rw [gt_set, h2]; simp; omega
    have hs := gt_false this (by simp; omega)
    exact Nat.le_trans (Nat.add_le_add_right (cnt_set st _).1 1) ((cnt_set _ _).2 hs)
  · have h1' : gt st e.1 = false := by simpa using h1
    have hs := gt_false h1' (by omega)
    exact Nat.le_trans ((cnt_set st _).2 hs) (cnt_set _ _).1
theorem upd_fix {st : List Bool} {e : W3} {nodes : Nat} (hl : st.length = nodes) (hi : 0 ≤ e.1 ∧ e.1 < e.2.1 ∧ e.2.1 < nodes) (h : gt st e.1 = gt st e.2.1) : upd st e = st := by
  unfold upd
  split
  · rename_i hor
    have hb : gt st e.1 = true ∧ gt st e.2.1 = true := by
      rw [h] at hor ⊢; rcases hor with hor | hor <;> exact ⟨hor, hor⟩
    have one : ∀ (v : Int), gt st v = true → st.set v.toNat true = st := by
      intro v hv
      apply List.ext_getElem?; intro j
      rw [List.getElem?_set]
      split
      · rename_i ej; subst ej
        unfold gt at hv
        split
        · rename_i hlt
          rw [List.getElem?_eq_getElem hlt] at hv ⊢
          simp at hv; rw [hv]
        · rename_i hlt
          rw [List.getElem?_eq_none (by omega)]
      · rfl
    rw [one _ hb.1, one _ hb.2]
  · rfl
def Closed (ws : List W3) (st : List Bool) : Prop := ∀ e ∈ ws, gt st e.1 = gt st e.2.1
theorem round_fix {nodes : Nat} : ∀ {ws : List W3} {st : List Bool}, st.length = nodes → InW nodes ws → Closed ws st → ws.foldl upd st = st
  | [], _, _, _, _ => rfl
  | e :: ws, st, hl, hw, hc => by
    simp only [List.foldl_cons]
    rw [upd_fix hl (hw e (by simp)) (hc e (by simp))]
    exact round_fix hl (fun x hx => hw x (by simp [hx])) fun x hx => hc x (by simp [hx])
theorem round_mono {nodes : Nat} : ∀ {ws : List W3} {st : List Bool}, cnt st ≤ cnt (ws.foldl upd st)
  | [], _ => Nat.le_refl _
  | e :: ws, st => Nat.le_trans (upd_cnt st e) (round_mono (nodes := nodes) (ws := ws))
theorem round_grow {nodes : Nat} : ∀ {ws : List W3} {st : List Bool}, st.length = nodes → InW nodes ws → Closed ws st ∨ cnt st + 1 ≤ cnt (ws.foldl upd st)
  | [], _, _, _ => .inl fun _ h => by simp at h
  | e :: ws, st, hl, hw => by
    by_cases h : gt st e.1 = gt st e.2.1
    · simp only [List.foldl_cons, upd_fix hl (hw e (by simp)) h]
      rcases round_grow (ws := ws) hl (fun x hx => hw x (by simp [hx])) with hc | hg
      · refine .inl fun x hx => ?_
        rcases List.mem_cons.1 hx with rfl | hx
        · exact h
        · exact hc x hx
      · exact .inr hg
    · refine .inr ?_
      simp only [List.foldl_cons]
      exact Nat.le_trans (upd_grow hl (hw e (by simp)) h) (round_mono (nodes := nodes))
theorem round_len : ∀ {ws : List W3} {st : List Bool}, (ws.foldl upd st).length = st.length
  | [], _ => rfl
  | e :: ws, st => by simp only [List.foldl_cons]; rw [round_len, upd_len]
theorem round_keep {v : Int} : ∀ {ws : List W3} {st : List Bool}, gt st v = true → gt (ws.foldl upd st) v = true
  | [], _, h => h
  | e :: ws, st, h => by simp only [List.foldl_cons]; exact round_keep (upd_mono h)
theorem round_sound {ws0 : List W3} {nodes : Nat} (hw : InW nodes ws0) : ∀ {ws : List W3} {st : List Bool}, (∀ e ∈ ws, e ∈ ws0) → st.length = nodes → (∀ v, 0 ≤ v → gt st v = true → Rc ws0 v) → ∀ v, 0 ≤ v → gt (ws.foldl upd st) v = true → Rc ws0 v
  | [], _, _, _, h => h
  | e :: ws, st, hs, hl, h => by
    simp only [List.foldl_cons]
    exact round_sound hw (fun x hx => hs x (by simp [hx])) ((upd_len st e).trans hl) (upd_sound hl hw (hs e (by simp)) h)
noncomputable def conn (n : TNet) : Bool := open Classical in decide (∀ v : Int, 0 ≤ v → v < n.1 → Rc n.2.2.2 v)
theorem closed_all {ws : List W3} {st : List Bool} (hc : Closed ws st) (h0 : gt st 0 = true) : ∀ v, Rc ws v → gt st v = true := by
  intro v h
  induction h with
  | zero => exact h0
  | ab he _ ih => rw [← hc _ he]; exact ih
  | ba he _ ih => rw [hc _ he]; exact ih
theorem all_true {st : List Bool} {nodes : Nat} (hl : st.length = nodes) : decide (false ∈ st) = false ↔ ∀ v : Int, 0 ≤ v → v < nodes → gt st v = true := by
  constructor
  · intro h v h0 h1
    simp only [decide_eq_false_iff_not] at h
    cases hg : gt st v with
    | true => rfl
    | false => exact absurd (List.mem_of_getElem? (gt_false hg (by omega))) h
  · intro h
    simp only [decide_eq_false_iff_not]
    intro hm
    obtain ⟨i, hi⟩ := List.getElem?_of_mem hm
    have := h (i : Int) (by omega) (by have := get_lt hi; omega)
    simp [gt, hi] at this
end Go.Sx.R
namespace Go.Sx
theorem iter_while {S R : Type} {body : S → (S → Option R) → (S → Option R) → Option R} {ke : S → Option R} (Q : Option R → Prop) (p : S → Prop) (mu : S → Nat)
    (h : ∀ s kc, p s → (∀ s', p s' → mu s' < mu s → Q (kc s')) → Q (body s kc ke)) : ∀ (N : Nat) (s : S), p s → mu s < N → Q (iterK body N s ke)
  | 0, _, _, hN => absurd hN (Nat.not_lt_zero _)
  | N + 1, s, hp, hN => by
    simp only [iterK]
    exact h s _ hp fun s' hp' hlt => iter_while Q p mu h N s' hp' (by omega)
theorem iter_fold {β σ S R : Type} {body : S → (S → Option R) → (S → Option R) → Option R} (l : List β) (mk : σ → Int → S) (p : Nat → σ → Prop) (g : σ → Nat → β → σ)
    (h : ∀ st (i : Nat) x kc ke, p i st → l[i]? = some x → i < l.length → body (mk st i) kc ke = kc (mk (g st i x) ((i + 1 : Nat) : Int)) ∧ p (i + 1) (g st i x))
    (h2 : ∀ st kc ke, p l.length st → body (mk st l.length) kc ke = ke (mk st l.length)) {N : Nat} (hN : l.length < N) (st : σ) (hp : p 0 st) (ke : S → Option R) :
    iterK body N (mk st 0) ke = ke (mk (foldI g l 0 st) l.length) ∧ p l.length (foldI g l 0 st) := by
  have gen : ∀ (r : List β) (i N : Nat) (st : σ), i + r.length = l.length → l.drop i = r → r.length < N → p i st → iterK body N (mk st i) ke = ke (mk (foldI g r i st) l.length) ∧ p l.length (foldI g r i st) := by
    intro r
    induction r with
    | nil =>
      intro i N st hi hd hN hp
      obtain ⟨m, rfl⟩ : ∃ m, N = m + 1 := ⟨N - 1, by omega⟩
      simp only [iterK, foldI]
      have e : i = l.length := by simpa using hi
      subst e
      exact ⟨h2 _ _ _ hp, hp⟩
    | cons x r ih =>
      intro i N st hi hd hN hp
      obtain ⟨m, rfl⟩ : ∃ m, N = m + 1 := ⟨N - 1, by omega⟩
      simp only [List.length_cons] at hi hN
      have hx : l[i]? = some x := by
        have := congrArg (fun l => l[0]?) hd
        simpa using this
      have q := h st i x (fun s' => iterK body m s' ke) ke hp hx (by omega)
      simp only [iterK, foldI]
      rw [q.1]
      exact ih (i + 1) m _ (by omega) (by rw [← List.drop_drop, hd]; simp) (by omega) q.2
  exact gen l 0 N st (by simp) (by simp) hN hp
theorem iter_rule {β σ S R : Type} {body : S → (S → Option R) → (S → Option R) → Option R} {ke : S → Option R} (Q : Option R → Prop) (l : List β) (mk : σ → Int → S) (p : Nat → σ → Prop)
    (h : ∀ st (i : Nat) x kc, p i st → l[i]? = some x → i < l.length → (∀ st', p (i + 1) st' → Q (kc (mk st' ((i + 1 : Nat) : Int)))) → Q (body (mk st i) kc ke))
    (h2 : ∀ st kc, p l.length st → Q (body (mk st l.length) kc ke)) {N : Nat} (hN : l.length < N) (st : σ) (hp : p 0 st) : Q (iterK body N (mk st 0) ke) := by
  have gen : ∀ (d i N : Nat) (st : σ), i + d = l.length → d < N → p i st → Q (iterK body N (mk st i) ke) := by
    intro d
    induction d with
    | zero =>
      intro i N st hi hN hp
      obtain ⟨m, rfl⟩ : ∃ m, N = m + 1 := ⟨N - 1, by omega⟩
      have e : i = l.length := by omega
      subst e
      exact h2 _ _ hp
    | succ d ih =>
      intro i N st hi hN hp
      obtain ⟨m, rfl⟩ : ∃ m, N = m + 1 := ⟨N - 1, by omega⟩
      have hlt : i < l.length := by omega
      exact h st i l[i] _ hp (List.getElem?_eq_getElem hlt) hlt fun st' hp' => ih (i + 1) m st' (by omega) (by omega) hp'
  exact gen l.length 0 N st (by omega) hN hp
end Go.Sx
namespace Go.Sx.R
open Go Go.Sx
theorem getI_gt {st : List Bool} {v : Int} (h0 : 0 ≤ v) (h1 : v < st.length) : getI st v = some (gt st v) := by
  have e : v = ((v.toNat : Nat) : Int) := by omega
  have hl : v.toNat < st.length := by omega
  rw [e, getI_nat, gt, Int.toNat_natCast, List.getElem?_eq_getElem hl]; rfl
def met4 (st : List Bool) (_ : Nat) (x : W3) (k : List Bool → Option Bool) : Option Bool :=
  Option.bind (getI st x.1) fun b => cond b (Option.bind (getI st x.1) fun _ => Option.bind (getI (st.set x.1.toNat true) x.2.1) fun _ => k ((st.set x.1.toNat true).set x.2.1.toNat true))
    (Option.bind (getI st x.2.1) fun b2 => cond b2 (Option.bind (getI st x.1) fun _ => Option.bind (getI (st.set x.1.toNat true) x.2.1) fun _ => k ((st.set x.1.toNat true).set x.2.1.toNat true)) (k st))
theorem met4_upd {st : List Bool} {j : Nat} {x : W3} {k : List Bool → Option Bool} (hi : 0 ≤ x.1 ∧ x.1 < x.2.1 ∧ x.2.1 < st.length) : met4 st j x k = k (upd st x) := by
  have g1 := getI_gt (st := st) (v := x.1) (by omega) (by omega)
  have g2 := getI_gt (st := st) (v := x.2.1) (by omega) (by omega)
  have g3 := getI_gt (st := st.set x.1.toNat true) (v := x.2.1) (by omega) (by simp; omega)
  simp only [met4, g1, g2, g3, Option.bind_some, upd]
  cases h1 : gt st x.1 <;> cases h2 : gt st x.2.1 <;> simp
theorem met_inner (n : TNet) (hn : Sm.sm B1 n) (i : Int) (st : List Bool) (hl : InW st.length n.2.2.2) (k : _ → Option Bool) :
    iterK (r_impl_NetOk_L4 e_slices_Contains_bool e_impl_byEnds N0) N0 (n, st, n.1, i, n.2.2.2, (n.2.2.2.length : Int), 0, ()) k =
      k (n, n.2.2.2.foldl upd st, n.1, i, n.2.2.2, (n.2.2.2.length : Int), (n.2.2.2.length : Int), ()) := by
  have hw : Sm.sm B1 n.2.2.2 := hn.2.2.2
  rw [iter_range (R := Bool) n.2.2.2 (fun (st : List Bool) j => (n, st, n.1, i, n.2.2.2, (n.2.2.2.length : Int), j, ())) met4 ?_ ?_ (len_lt hw N0_gt)]
  · have := (rangeK_foldP (step := met4) (fun _ s => s.length = st.length) (fun s _ x => upd s x) (fun st' => k (n, st', n.1, i, n.2.2.2, (n.2.2.2.length : Int), (n.2.2.2.length : Int), ())) n.2.2.2 0 st rfl
      (fun s j x k hs hx => ⟨met4_upd (by rw [hs]; exact hl x (List.mem_of_getElem? hx)), by rw [upd_len, hs]⟩)).1
    rw [this]
    have key : ∀ (l : List W3) (i : Nat) (s : List Bool), foldI (fun s _ x => upd s x) l i s = l.foldl upd s := by
      intro l
      induction l with
      | nil => intros; rfl
      | cons x l ih => intro i s; simp only [foldI, List.foldl_cons, ih]
    rw [key]
  · intro st j x kc ke hx hj
    simp only [r_impl_NetOk_L4, lt_len, hj, decide_true, cond_true, getI_nat, hx, Option.bind_some, wr_len hj hw, met4]
  · intro st kc ke
    simp only [r_impl_NetOk_L4, not_lt_self, cond_false]
theorem met_outer (n : TNet) (hn : Sm.sm B1 n) (m : Nat) (hm : n.1 = m) (h1 : 1 ≤ m) (hw : InW m n.2.2.2) (st : List Bool) (hl : st.length = m) (hs : ∀ v, 0 ≤ v → gt st v = true → Rc n.2.2.2 v) (h0 : gt st 0 = true) (hc : 1 ≤ cnt st) (k : _ → Option Bool) :
    ∃ st', st'.length = m ∧ Closed n.2.2.2 st' ∧ (∀ v, 0 ≤ v → gt st' v = true → Rc n.2.2.2 v) ∧ gt st' 0 = true ∧
      iterK (r_impl_NetOk_L2 e_slices_Contains_bool e_impl_byEnds N0) N0 (n, st, n.1, 0, ()) k = k (n, st', n.1, n.1, ()) := by
  have hb : m ≤ 9223372036854775807 := by have := hn.1.2; omega
  have hlen : (List.range m).length = m := by simp
  have hnm : n.1 = ((List.range m).length : Int) := by simp [hm]
  have fp := iter_fold (R := Bool) (body := r_impl_NetOk_L2 e_slices_Contains_bool e_impl_byEnds N0) (List.range m) (fun (st : List Bool) i => (n, st, n.1, i, ()))
    (fun i st => st.length = m ∧ (∀ v, 0 ≤ v → gt st v = true → Rc n.2.2.2 v) ∧ gt st 0 = true ∧ (Closed n.2.2.2 st ∨ i + 1 ≤ cnt st)) (fun st _ _ => n.2.2.2.foldl upd st)
    (fun st j x kc ke ⟨p1, p2, p3, p4⟩ hx hj => by
      refine ⟨?_, round_len.trans p1, round_sound hw (fun e he => he) p1 p2, round_keep p3, ?_⟩
      · have hlt : decide ((j : Int) < n.1) = true := by rw [decide_eq_true_eq, hnm]; exact Int.ofNat_lt.2 hj
        simp only [r_impl_NetOk_L2, hlt, cond_true]
        rw [met_inner n hn _ st (by rw [p1]; exact hw)]
        rw [wr_succ hj (by omega)]
      · rcases p4 with p4 | p4
        · left; rw [round_fix p1 hw p4]; exact p4
        · rcases round_grow p1 hw with q | q
          · left; rw [round_fix p1 hw q]; exact q
          · right; omega)
    (fun st kc ke _ => by
      have hlt : decide ((((List.range m).length : Nat) : Int) < n.1) = false := by rw [decide_eq_false_iff_not, hnm]; omega
      simp only [r_impl_NetOk_L2, hlt, cond_false]) (N := N0) (by have := N0_big; omega) st ⟨hl, hs, h0, .inr hc⟩ k
  refine ⟨foldI (fun st _ _ => n.2.2.2.foldl upd st) (List.range m) 0 st, fp.2.1, ?_, fp.2.2.1, fp.2.2.2.1, ?_⟩
  · rcases fp.2.2.2.2 with q | q
    · exact q
    · have := cnt_le (foldI (fun st _ _ => n.2.2.2.foldl upd st) (List.range m) 0 st)
      rw [fp.2.1] at this
      simp only [hlen] at q; omega
  · rw [fp.1, hlen, hm]
theorem wiresOk {n : TNet} {m : Nat} (hm : n.1 = m) (h : wiresBad n = false) : InW m n.2.2.2 := by
  intro e he
  obtain ⟨i, hi⟩ := List.getElem?_of_mem he
  simp only [wiresBad, List.any_eq_false] at h
  have := h (e, i) (by rw [List.mem_zipIdx_iff_getElem?]; exact hi)
  simp only [badW, Bool.not_eq_true, Bool.or_eq_false_iff, Bool.not_eq_false', Bool.and_eq_true, decide_eq_true_eq] at this
  omega
noncomputable def netok (n : TNet) : Bool := hdrOk n && !wiresBad n && conn n
theorem p_NetOk (n : TNet) (hn : Sm.sm B1 n) : e_impl_NetOk (n, ()) = some (netok n) := by
  simp only [e_impl_NetOk, r_impl_NetOk, netL0_impl n hn]
  by_cases hh : hdrOk n = true
  · have hh' := hh
    simp only [hdrOk, Bool.and_eq_true, decide_eq_true_eq] at hh'
    obtain ⟨⟨⟨⟨⟨q1, q2⟩, q3⟩, q4⟩, q5⟩, q6⟩ := hh'
    have d1 : decide (n.1 < 1) = false := by rw [decide_eq_false_iff_not]; omega
    have d2 : decide (n.1 > 5) = false := by rw [decide_eq_false_iff_not]; omega
    have d3 : decide (n.2.1 < 1) = false := by rw [decide_eq_false_iff_not]; omega
    have d4 : decide (n.2.1 > n.1) = false := by rw [decide_eq_false_iff_not]; omega
    have d5 : decide (n.2.2.1 < 1) = false := by rw [decide_eq_false_iff_not]; omega
    have d6 : decide (n.2.2.1 > 1000) = false := by rw [decide_eq_false_iff_not]; omega
    simp only [d1, d2, d3, d4, d5, d6, cond_false]
    cases hb : wiresBad n with
    | true => simp [netok, hh, hb]
    | false =>
      simp only [cond_false]
      obtain ⟨m, hm⟩ : ∃ m : Nat, n.1 = m := ⟨n.1.toNat, by omega⟩
      have hw := wiresOk hm hb
      have d7 : decide (0 ≤ n.1) = true := by rw [decide_eq_true_eq]; omega
      have hm' : n.1.toNat = m := by omega
      simp only [d7, cond_true, hm', ble_true (show m ≤ 17179869184 by omega)]
      have g0 : getI (List.replicate m false) 0 = some false := by
        rw [getI_zero, List.getElem?_replicate, if_pos (by omega)]
      simp only [g0, Option.bind_some, Int.toNat_zero]
      obtain ⟨st', p1, p2, p3, p4, p5⟩ := met_outer n hn m hm (by omega) hw ((List.replicate m false).set 0 true) (by simp)
        (fun v hv hg => by
          rw [gt_set] at hg
          have hz : gt (List.replicate m false) v = false := by
            simp only [gt, List.getElem?_replicate]; split <;> rfl
          rw [hz] at hg
          simp at hg
          have : v = 0 := by omega
          subst this; exact .zero)
        (by rw [gt_set]; simp; omega)
        (by have := (cnt_set (List.replicate m false) 0).2 (by rw [List.getElem?_replicate, if_pos (by omega)]); omega)
        (fun s3 => Option.bind (e_slices_Contains_bool (s3.2.1, false, ())) fun x4 => some (!x4))
      rw [p5]
      simp only [p_ContainsB st' false (show st'.length ≤ BB by rw [p1]; exact Nat.le_trans (show m ≤ 5 by omega) (by decide)), Option.bind_some, netok, hh, hb, Bool.not_false, Bool.true_and, Option.some.injEq]
      have hall := all_true p1
      by_cases hc : ∀ v : Int, 0 ≤ v → v < n.1 → Rc n.2.2.2 v
      · have e1 : conn n = true := by simp only [conn, decide_eq_true_eq]; exact hc
        rw [e1, hall.2 fun v h0 h1 => closed_all p2 p4 v (hc v h0 (by omega))]; rfl
      · have e1 : conn n = false := by simp only [conn, decide_eq_false_iff_not]; exact hc
        have : decide (false ∈ st') = true := by
          cases hd : decide (false ∈ st') with
          | true => rfl
          | false => exact absurd (fun v h0 h1 => p3 v h0 (hall.1 hd v h0 (by omega))) hc
        rw [e1, this]; rfl
  · simp only [Bool.not_eq_true] at hh
    have e : netok n = false := by simp [netok, hh]
    rw [e]
    have hh' := hh
    simp only [hdrOk, Bool.and_eq_false_iff, decide_eq_false_iff_not] at hh'
    by_cases d1 : n.1 < 1
    · simp [d1]
    by_cases d2 : n.1 > 5
    · simp [d1, d2]
    by_cases d3 : n.2.1 < 1
    · simp [d1, d2, d3]
    by_cases d4 : n.2.1 > n.1
    · simp [d1, d2, d3, d4]
    by_cases d5 : n.2.2.1 < 1
    · simp [d1, d2, d3, d4, d5]
    by_cases d6 : n.2.2.1 > 1000
    · simp [d1, d2, d3, d4, d5, d6]
    omega
end Go.Sx.R
namespace Go.Sx.R
open Go Go.Sx
def addIf (c : Bool) (v : Int) (q : List Int) : List Int := if c = true ∧ v ∉ q then q ++ [v] else q
theorem addIf_mem {c : Bool} {v u : Int} {q : List Int} (h : u ∈ q) : u ∈ addIf c v q := by
  unfold addIf; split
  · simp [h]
  · exact h
theorem addIf_in {v : Int} {q : List Int} : v ∈ addIf true v q := by
  unfold addIf; split
  · simp
  · rename_i h; simpa using h
theorem addIf_get {c : Bool} {v u : Int} {q : List Int} {i : Nat} (h : q[i]? = some u) : (addIf c v q)[i]? = some u := by
  unfold addIf; split
  · rw [List.getElem?_append_left (get_lt h)]; exact h
  · exact h
theorem addIf_len {c : Bool} {v : Int} {q : List Int} : q.length ≤ (addIf c v q).length := by
  unfold addIf; split <;> simp
structure QOk (ws : List W3) (q : List Int) : Prop where
  nodup : q.Nodup
  rc : ∀ v ∈ q, Rc ws v
  zero : (0 : Int) ∈ q
theorem QOk.add {ws : List W3} {q : List Int} (h : QOk ws q) {c : Bool} {v : Int} (hv : c = true → Rc ws v) : QOk ws (addIf c v q) := by
  unfold addIf; split
  · rename_i hc
    refine ⟨?_, fun u hu => ?_, by simp [h.zero]⟩
    · rw [List.nodup_append]
      refine ⟨h.nodup, by simp, fun a ha b hb e => ?_⟩
      simp at hb; subst hb; subst e; exact hc.2 ha
    · rcases List.mem_append.1 hu with hu | hu
      · exact h.rc u hu
      · simp at hu; subst hu; exact hv hc.1
  · exact h
theorem QOk.len {ws : List W3} {q : List Int} {m : Nat} (h : QOk ws q) (h0 : 0 < m) (hw : InW m ws) : q.length ≤ m := by
  have := nodup_len (m := ints m) h.nodup fun v hv => mem_ints.2 ((h.rc v hv).inn h0 hw)
  rwa [len_ints] at this
def Done (ws : List W3) (v : Int) (q : List Int) : Prop := ∀ e ∈ ws, (e.1 = v → e.2.1 ∈ q) ∧ (e.2.1 = v → e.1 ∈ q)
def reachG (x : Int) (q : List Int) (_ : Nat) (e : W3) : List Int := addIf (decide (e.2.1 = x)) e.1 (addIf (decide (e.1 = x)) e.2.1 q)
theorem addT {v : Int} {q : List Int} (h : v ∉ q) : addIf true v q = q ++ [v] := by simp [addIf, h]
theorem addN {c : Bool} {v : Int} {q : List Int} (h : v ∈ q) : addIf c v q = q := by simp [addIf, h]
theorem addF {v : Int} {q : List Int} : addIf false v q = q := by simp [addIf]
theorem reach_step (ws : List W3) (hws : Sm.sm B1 ws) (m : Nat) (h0 : 0 < m) (h5 : m ≤ 5) (hw : InW m ws) (i : Nat) (x : Int) (q : List Int) (hq : QOk ws q) (hx : q[i]? = some x) (j : Nat) (e : W3) (he : ws[j]? = some e) (hj : j < ws.length) (kc ke : _ → Option (List Int)) :
    r_spec_l03Reach_L2 e_spec_l03Has N0 (ws, q, (i : Int), ws, (ws.length : Int), (j : Int), ()) kc ke = kc (ws, reachG x q j e, (i : Int), ws, (ws.length : Int), ((j + 1 : Nat) : Int), ()) := by
  have hxq : x ∈ q := List.mem_of_getElem? hx
  have hl := hq.len h0 hw
  have hbb : ∀ k : Nat, k ≤ 7 → k ≤ BB := fun k hk => Nat.le_trans hk (by decide)
  simp only [r_spec_l03Reach_L2, lt_len, hj, decide_true, cond_true, getI_nat, he, hx, Option.bind_some, wr_len hj hws]
  rw [p_Has q e.2.1 (hbb _ (by omega)), p_Has q e.1 (hbb _ (by omega))]
  have hx2 : ∀ v : Int, (q ++ [v])[i]? = some x := fun v => by rw [List.getElem?_append_left (get_lt hx)]; exact hx
  have room : Nat.ble (q.length + 1) 17179869184 = true := ble_true (by omega)
  have room2 : Nat.ble (q.length + 1 + 1) 17179869184 = true := ble_true (by omega)
  rw [p_Has (q ++ [e.2.1]) e.1 (hbb _ (by simp; omega))]
  simp only [List.length_cons, List.length_nil, List.length_append, Nat.zero_add, room, room2, hx2, Option.bind_some, cond_true, reachG]
  by_cases a1 : e.1 = x
  · rw [a1]
    simp only [decide_true, cond_true]
    by_cases a2 : e.2.1 ∈ q
    · simp only [a2, decide_true, Bool.not_true, cond_false, addN a2]
      by_cases a3 : e.2.1 = x
      · simp only [a3, decide_true, cond_true, hxq, Bool.not_true, cond_false, addN hxq]
      · simp only [a3, decide_false, cond_false, addF]
    · simp only [a2, decide_false, Bool.not_false, cond_true, addT a2]
      by_cases a3 : e.2.1 = x
      · exact absurd (a3 ▸ hxq) a2
      · simp only [a3, decide_false, cond_false, addF]
  · simp only [a1, decide_false, cond_false, addF]
    by_cases a3 : e.2.1 = x
    · simp only [a3, decide_true, cond_true]
      by_cases a4 : e.1 ∈ q
      · simp only [a4, decide_true, Bool.not_true, cond_false, addN a4]
      · simp only [a4, decide_false, Bool.not_false, cond_true, addT a4]
    · simp only [a3, decide_false, cond_false, addF]
theorem reach_inner (ws : List W3) (hws : Sm.sm B1 ws) (m : Nat) (h0 : 0 < m) (h5 : m ≤ 5) (hw : InW m ws) (i : Nat) (x : Int) (q : List Int) (hq : QOk ws q) (hx : q[i]? = some x) (ke : _ → Option (List Int)) :
    ∃ q', iterK (r_spec_l03Reach_L2 e_spec_l03Has N0) N0 (ws, q, (i : Int), ws, (ws.length : Int), 0, ()) ke = ke (ws, q', (i : Int), ws, (ws.length : Int), (ws.length : Int), ()) ∧
      QOk ws q' ∧ q'[i]? = some x ∧ (∀ u ∈ q, u ∈ q') ∧ q.length ≤ q'.length ∧ Done ws x q' ∧ ∀ (j : Nat) (u : Int), q[j]? = some u → q'[j]? = some u := by
  have hxr : Rc ws x := hq.rc x (List.mem_of_getElem? hx)
  have := iter_fold (R := List Int) (body := r_spec_l03Reach_L2 e_spec_l03Has N0) ws (fun (q : List Int) j => (ws, q, (i : Int), ws, (ws.length : Int), j, ()))
    (fun j q' => QOk ws q' ∧ q'[i]? = some x ∧ (∀ u ∈ q, u ∈ q') ∧ q.length ≤ q'.length ∧ (∀ (k : Nat) (e : W3), k < j → ws[k]? = some e → (e.1 = x → e.2.1 ∈ q') ∧ (e.2.1 = x → e.1 ∈ q')) ∧ ∀ (k : Nat) (u : Int), q[k]? = some u → q'[k]? = some u) (reachG x)
    (fun q' j e kc ke ⟨p1, p2, p3, p4, p5, p6⟩ he hj => by
      refine ⟨reach_step ws hws m h0 h5 hw i x q' p1 p2 j e he hj kc ke, ?_, ?_, ?_, ?_, ?_, ?_⟩
      · have hem := List.mem_of_getElem? he
        refine (p1.add fun hc => ?_).add fun hc => ?_
        · have : e.1 = x := by simpa using hc
          exact .ab hem (this ▸ hxr)
        · have : e.2.1 = x := by simpa using hc
          exact .ba hem (this ▸ hxr)
      · exact addIf_get (addIf_get p2)
      · exact fun u hu => addIf_mem (addIf_mem (p3 u hu))
      · exact Nat.le_trans p4 (Nat.le_trans addIf_len addIf_len)
      · intro k e' hk hek
        by_cases ek : k = j
        · subst ek
          rw [he] at hek; simp only [Option.some.injEq] at hek; subst hek
          refine ⟨fun h1 => ?_, fun h2 => ?_⟩
          · refine addIf_mem ?_
            rw [decide_eq_true h1]; exact addIf_in
          · simp only [reachG]
            rw [decide_eq_true h2]; exact addIf_in
        · have := p5 k e' (by omega) hek
          exact ⟨fun h => addIf_mem (addIf_mem (this.1 h)), fun h => addIf_mem (addIf_mem (this.2 h))⟩
      · exact fun k u hk => addIf_get (addIf_get (p6 k u hk)))
    (fun q' kc ke _ => by simp only [r_spec_l03Reach_L2, not_lt_self, cond_false]) (N := N0) (len_lt hws N0_gt) q ⟨hq, hx, fun _ h => h, Nat.le_refl _, by simp, fun _ _ h => h⟩ ke
  obtain ⟨e1, p1, p2, p3, p4, p5, p6⟩ := this
  refine ⟨_, e1, p1, p2, p3, p4, fun e he => ?_, p6⟩
  obtain ⟨k, hk⟩ := List.getElem?_of_mem he
  exact p5 k e (get_lt hk) hk
theorem p_Reach (ws : List W3) (hws : Sm.sm B1 ws) (m : Nat) (h0 : 0 < m) (h5 : m ≤ 5) (hw : InW m ws) :
    ∃ q, e_spec_l03Reach (ws, 0, ()) = some q ∧ QOk ws q ∧ ∀ v ∈ q, Done ws v q := by
  simp only [e_spec_l03Reach, r_spec_l03Reach]
  refine iter_while (fun o => ∃ q, o = some q ∧ QOk ws q ∧ ∀ v ∈ q, Done ws v q)
    (fun s : List W3 × List Int × Int × Unit => s.1 = ws ∧ QOk ws s.2.1 ∧ ∃ i : Nat, s.2.2.1 = i ∧ i ≤ s.2.1.length ∧ ∀ (j : Nat) (u : Int), j < i → s.2.1[j]? = some u → Done ws u s.2.1) (fun s => m - s.2.2.1.toNat) ?_ N0 _ ⟨rfl, ⟨by simp, fun v hv => ?_, by simp⟩, 0, rfl, by simp, by simp⟩ (by have := N0_big; simp only [Int.toNat_zero]; omega)
  · rintro ⟨ws', q, at', u⟩ kc ⟨rfl, hq, i, rfl, hi, hd⟩ hk
    simp only [r_spec_l03Reach_L0]
    simp only at hq hi hd
    by_cases hlt : i < q.length
    · simp only [lt_len, hlt, decide_true, cond_true]
      have hx : q[i]? = some q[i] := List.getElem?_eq_getElem hlt
      obtain ⟨q', e1, p1, p2, p3, p4, p5, p6⟩ := reach_inner ws' hws m h0 h5 hw i q[i] q hq hx (fun s1 => kc (s1.1, s1.2.1, wr (s1.2.2.1 + 1), ()))
      rw [e1]
      have hl := hq.len h0 hw
      simp only [wr_succ hlt (by omega)]
      refine hk _ ⟨rfl, p1, i + 1, rfl, by simp only; omega, fun j u hj hu => ?_⟩ (by simp only [Int.toNat_natCast]; omega)
      simp only at hu ⊢
      by_cases ej : j = i
      · subst ej; rw [p2] at hu; simp only [Option.some.injEq] at hu; rw [← hu]; exact p5
      · have hj' : j < q.length := by omega
        have h1 : q[j]? = some q[j] := List.getElem?_eq_getElem hj'
        have h2 := p6 j _ h1
        rw [hu] at h2; simp only [Option.some.injEq] at h2; subst h2
        intro e he
        exact ⟨fun h => p3 _ ((hd j _ (by omega) h1 e he).1 h), fun h => p3 _ ((hd j _ (by omega) h1 e he).2 h)⟩
    · have hd' : decide ((i : Int) < (q.length : Int)) = false := by simp; omega
      simp only [hd', cond_false]
      refine ⟨q, rfl, hq, fun v hv => ?_⟩
      obtain ⟨j, hj⟩ := List.getElem?_of_mem hv
      exact hd j v (by have := get_lt hj; omega) hj
  · simp at hv; subst hv; exact .zero
theorem reach_all {ws : List W3} {q : List Int} (hq : QOk ws q) (hd : ∀ v ∈ q, Done ws v q) : ∀ v, Rc ws v → v ∈ q := by
  intro v h
  induction h with
  | zero => exact hq.zero
  | ab he _ ih => exact (hd _ ih _ he).1 rfl
  | ba he _ ih => exact (hd _ ih _ he).2 rfl
theorem s_NetOk (n : TNet) (hn : Sm.sm B1 n) : e_spec_NetOk (n, ()) = some (netok n) := by
  simp only [e_spec_NetOk, r_spec_NetOk, p_l01In, n_l01In, Option.bind_some]
  by_cases hh : hdrOk n = true
  · have hh' := hh
    simp only [hdrOk, Bool.and_eq_true, decide_eq_true_eq] at hh'
    obtain ⟨⟨⟨⟨⟨q1, q2⟩, q3⟩, q4⟩, q5⟩, q6⟩ := hh'
    simp only [q1, q2, q3, q4, q5, q6, decide_true, Bool.and_self, Bool.not_true, cond_false]
    rw [netL0_spec n hn _ q1 q2]
    cases hb : wiresBad n with
    | true => simp [netok, hh, hb]
    | false =>
      simp only [cond_false]
      obtain ⟨m, hm⟩ : ∃ m : Nat, n.1 = m := ⟨n.1.toNat, by omega⟩
      have hw := wiresOk hm hb
      obtain ⟨q, e1, hq, hd⟩ := p_Reach n.2.2.2 hn.2.2.2 m (by omega) (by omega) hw
      rw [e1]
      simp only [Option.bind_some, netok, hh, hb, Bool.not_false, Bool.true_and, Option.some.injEq]
      have hl := hq.len (by omega) hw
      by_cases hc : ∀ v : Int, 0 ≤ v → v < n.1 → Rc n.2.2.2 v
      · have e2 : conn n = true := by simp only [conn, decide_eq_true_eq]; exact hc
        rw [e2, decide_eq_true_eq]
        have := nodup_len (l := ints m) (m := q) nodup_ints fun v hv => reach_all hq hd v (hc v (mem_ints.1 hv).1 (by have := (mem_ints.1 hv).2; omega))
        rw [len_ints] at this; omega
      · have e2 : conn n = false := by simp only [conn, decide_eq_false_iff_not]; exact hc
        rw [e2, decide_eq_false_iff_not]
        intro hlen
        have hall := nodup_all (m := ints m) hq.nodup (fun v hv => mem_ints.2 ((hq.rc v hv).inn (by omega) hw)) (by rw [len_ints]; omega)
        exact hc fun v h0 h1 => hq.rc v (hall v (mem_ints.2 ⟨h0, by omega⟩))
  · simp only [Bool.not_eq_true] at hh
    have e : netok n = false := by simp [netok, hh]
    rw [e]
    have hh' := hh
    simp only [hdrOk, Bool.and_eq_false_iff, decide_eq_false_iff_not] at hh'
    by_cases d1 : 1 ≤ n.1 ∧ n.1 ≤ 5
    · by_cases d3 : 1 ≤ n.2.1 ∧ n.2.1 ≤ n.1
      · have d5 : (decide (1 ≤ n.2.2.1) && decide (n.2.2.1 ≤ 1000)) = false := by simp only [Bool.and_eq_false_iff, decide_eq_false_iff_not]; omega
        simp [d1, d3, d5]
      · have d3' : (decide (1 ≤ n.2.1) && decide (n.2.1 ≤ n.1)) = false := by simp only [Bool.and_eq_false_iff, decide_eq_false_iff_not]; omega
        simp [d1, d3']
    · have d1' : (decide (1 ≤ n.1) && decide (n.1 ≤ 5)) = false := by simp only [Bool.and_eq_false_iff, decide_eq_false_iff_not]; omega
      simp [d1']
end Go.Sx.R
namespace Go.Sx.R
open Go Go.Sx
theorem find_first {β : Type} (p : β → Bool) : ∀ (l : List β) (i : Nat) (x : β), (∀ (j : Nat) (y : β), j < i → l[j]? = some y → p y = false) → l[i]? = some x → p x = true → l.find? p = some x
  | [], i, x, _, hx, _ => by simp at hx
  | y :: l, 0, x, _, hx, hp => by
    simp at hx; subst hx; simp [hp]
  | y :: l, i + 1, x, h, hx, hp => by
    have h0 := h 0 y (by omega) (by simp)
    simp only [List.find?_cons, h0]
    exact find_first p l i x (fun j z hj hz => h (j + 1) z (by omega) (by simpa using hz)) (by simpa using hx) hp
theorem find_none {β : Type} (p : β → Bool) (l : List β) (h : ∀ (j : Nat) (y : β), l[j]? = some y → p y = false) : l.find? p = none := by
  rw [List.find?_eq_none]
  intro x hx
  obtain ⟨j, hj⟩ := List.getElem?_of_mem hx
  simp [h j x hj]
def isW (a b : Int) (x : W3) : Bool := decide (x.1 = if b < a then b else a) && decide (x.2.1 = if b > a then b else a)
def wbt (ws : List W3) (a b : Int) : Int := if a = b then 0 else match ws.find? (isW a b) with
  | some x => x.2.2
  | none => 0
theorem p_WB (n : TNet) (m : Nat) (hn : Sm.sm B1 n) (hw : InW m n.2.2.2) (a b : Int) : e_impl_WeightBetween (n, a, b, ()) = some (wbt n.2.2.2 a b) := by
  have hws : Sm.sm B1 n.2.2.2 := hn.2.2.2
  simp only [e_impl_WeightBetween, r_impl_WeightBetween]
  refine iter_rule (fun o => o = some (wbt n.2.2.2 a b)) n.2.2.2 (fun (_ : Unit) i => (a, b, n.2.2.2, (n.2.2.2.length : Int), i, ())) (fun i _ => a = b ∨ ∀ (j : Nat) (y : W3), j < i → n.2.2.2[j]? = some y → isW a b y = false)
    (fun st i x kc hp hx hi hk => ?_) (fun st kc hp => ?_) (len_lt hws N0_gt) () (.inr (by simp))
  · simp only [r_impl_WeightBetween_L0, lt_len, hi, decide_true, cond_true, getI_nat, hx, Option.bind_some, wr_len hi hws]
    have hk' := hk ()
    by_cases hab : a = b
    · simp only [hab, decide_true, Bool.not_true, cond_false] at hk' ⊢
      exact hk' (.inl trivial)
    · have hp := hp.resolve_left hab
      simp only [hab, decide_false, Bool.not_false, cond_true]
      have hx3 := hw x (List.mem_of_getElem? hx)
      have next : isW a b x = false → some (wbt n.2.2.2 a b) = some (wbt n.2.2.2 a b) → kc (a, b, n.2.2.2, (n.2.2.2.length : Int), ((i + 1 : Nat) : Int), ()) = some (wbt n.2.2.2 a b) := fun hf _ => hk' (.inr fun j y hj hy => by
        by_cases e : j = i
        · subst e; rw [hx] at hy; simp only [Option.some.injEq] at hy; subst hy; exact hf
        · exact hp j y (by omega) hy)
      have hit : isW a b x = true → some x.2.2 = some (wbt n.2.2.2 a b) := fun ht => by
        rw [wbt, if_neg hab, find_first (isW a b) _ i x hp hx ht]
      by_cases a1 : x.1 = a
      · by_cases a2 : x.2.1 = b
        · simp only [a1, a2, decide_true, cond_true]
          refine hit ?_
          simp only [isW, Bool.and_eq_true, decide_eq_true_eq]
          rw [if_neg (by omega), if_pos (by omega)]; exact ⟨a1, a2⟩
        · have hf : isW a b x = false := by
            simp only [isW, Bool.and_eq_false_iff, decide_eq_false_iff_not]
            by_cases c : b < a
            · left; rw [if_pos c]; omega
            · right; rw [if_pos (by omega)]; exact a2
          have a3 : ¬ (x.1 = b) := by omega
          have a3' : ¬ (a = b) := by omega
          simp only [a1, a2, decide_true, cond_true, decide_false, cond_false, a3']
          exact next hf rfl
      · by_cases a3 : x.1 = b
        · by_cases a4 : x.2.1 = a
          · simp only [a1, a3, a4, decide_true, cond_true, decide_false, cond_false]
            have : ¬ b = a := by omega
            simp only [this, decide_false, cond_false]
            refine hit ?_
            simp only [isW, Bool.and_eq_true, decide_eq_true_eq]
            rw [if_pos (by omega), if_neg (by omega)]; exact ⟨a3, a4⟩
          · have hf : isW a b x = false := by
              simp only [isW, Bool.and_eq_false_iff, decide_eq_false_iff_not]
              by_cases c : b < a
              · right; rw [if_neg (by omega)]; exact a4
              · left; rw [if_neg c]; exact a1
            have : ¬ b = a := by omega
            simp only [a3, a4, decide_true, cond_true, decide_false, cond_false, this]
            exact next hf rfl
        · have hf : isW a b x = false := by
            simp only [isW, Bool.and_eq_false_iff, decide_eq_false_iff_not]
            left; split <;> assumption
          simp only [a1, a3, decide_false, cond_false]
          exact next hf rfl
  · simp only [r_impl_WeightBetween_L0, not_lt_self, cond_false]
    by_cases hab : a = b
    · simp [wbt, hab]
    · rw [wbt, if_neg hab, find_none (isW a b) _ fun j y hy => (hp.resolve_left hab) j y (get_lt hy) hy]
theorem s_Find (ws : List W3) (hws : Sm.sm B1 ws) (a b : Int) : ∃ r, e_spec_l03Find (ws, a, b, ()) = some r ∧ ((r = -1 ∧ ws.find? (isW a b) = none) ∨ ∃ (j : Nat) (x : W3), r = j ∧ ws[j]? = some x ∧ ws.find? (isW a b) = some x) := by
  simp only [e_spec_l03Find, r_spec_l03Find]
  refine iter_rule (fun o => ∃ r : Int, o = some r ∧ ((r = -1 ∧ ws.find? (isW a b) = none) ∨ ∃ (j : Nat) (x : W3), r = j ∧ ws[j]? = some x ∧ ws.find? (isW a b) = some x)) ws (fun (_ : Unit) i => (a, b, ws, (ws.length : Int), i, ())) (fun i _ => ∀ (j : Nat) (y : W3), j < i → ws[j]? = some y → isW a b y = false)
    (fun st i x kc hp hx hi hk => ?_) (fun st kc hp => ?_) (len_lt hws N0_gt) () (by simp)
  · simp only [r_spec_l03Find_L0, lt_len, hi, decide_true, cond_true, getI_nat, hx, Option.bind_some, wr_len hi hws]
    have next : isW a b x = false → _ := fun hf => hk () fun j y hj hy => by
        by_cases e : j = i
        · subst e; rw [hx] at hy; simp only [Option.some.injEq] at hy; subst hy; exact hf
        · exact hp j y (by omega) hy
    by_cases c1 : x.1 = if b < a then b else a
    · by_cases c2 : x.2.1 = if b > a then b else a
      · have d1 := decide_eq_true c1
        have d2 := decide_eq_true c2
        refine ⟨i, ?_, .inr ⟨i, x, rfl, hx, find_first (isW a b) _ i x hp hx (by simp only [isW, d1, d2, Bool.and_self])⟩⟩
        rw [d1, cond_true, d2, cond_true]
      · have d1 := decide_eq_true c1
        have d2 := decide_eq_false c2
        rw [d1, cond_true, d2, cond_false]
        exact next (by simp only [isW, d2, Bool.and_false])
    · have d1 := decide_eq_false c1
      rw [d1, cond_false]
      exact next (by simp only [isW, d1, Bool.false_and])
  · simp only [r_spec_l03Find_L0, not_lt_self, cond_false]
    exact ⟨-1, rfl, .inl ⟨rfl, find_none (isW a b) _ fun j y hy => hp j y (get_lt hy) hy⟩⟩
theorem s_WB (n : TNet) (hn : Sm.sm B1 n) (a b : Int) : e_spec_WeightBetween (n, a, b, ()) = some (wbt n.2.2.2 a b) := by
  simp only [e_spec_WeightBetween, r_spec_WeightBetween]
  obtain ⟨r, e1, h⟩ := s_Find n.2.2.2 hn.2.2.2 a b
  rw [e1, Option.bind_some]
  rcases h with ⟨rfl, h⟩ | ⟨j, x, rfl, hx, h⟩
  · simp [wbt, h]
  · have : decide ((j : Int) < 0) = false := by simp
    rw [this, cond_false, getI_nat, hx]
    by_cases hab : a = b
    · simp [hab, wbt]
    · simp [hab, wbt, h]
def nearG (ws : List W3) (v : Int) (q : List Int) (j : Nat) (_ : Nat) : List Int := if wbt ws v j > 0 then q ++ [(j : Int)] else q
def near (ws : List W3) (v : Int) (m : Nat) : List Int := foldI (nearG ws v) (List.range m) 0 []
theorem range_get {m i x : Nat} (h : (List.range m)[i]? = some x) : x = i ∧ i < m := by
  have := get_lt h
  simp at this
  rw [List.getElem?_range this] at h
  simp at h; exact ⟨h.symm, this⟩
theorem near_len (ws : List W3) (v : Int) (m : Nat) : (near ws v m).length ≤ m := by
  have key : ∀ (l : List Nat) (i : Nat) (q : List Int), (foldI (nearG ws v) l i q).length ≤ q.length + l.length := by
    intro l
    induction l with
    | nil => intros; simp [foldI]
    | cons x l ih =>
      intro i q
      simp only [foldI]
      have := ih (i + 1) (nearG ws v q i x)
      have h2 : (nearG ws v q i x).length ≤ q.length + 1 := by unfold nearG; split <;> simp
      simp only [List.length_cons]; omega
  have := key (List.range m) 0 []
  simpa [near] using this
theorem p_WiresAt (n : TNet) (m : Nat) (hn : Sm.sm B1 n) (hm : n.1 = m) (hok : netok n = true) (v : Int) (h0 : 0 ≤ v) (h1 : v < m) : e_impl_WiresAt (n, v, ()) = some (near n.2.2.2 v m) := by
  have hw : InW m n.2.2.2 := wiresOk hm (by revert hok; simp only [netok]; cases wiresBad n <;> simp)
  have hmB : m ≤ 5 := by
    have : hdrOk n = true := by revert hok; simp only [netok]; cases hdrOk n <;> simp
    simp only [hdrOk, Bool.and_eq_true, decide_eq_true_eq] at this; omega
  simp only [e_impl_WiresAt, r_impl_WiresAt, p_NetOk n hn, hok, Option.bind_some, Bool.not_true, cond_false, e_impl_isNode, r_impl_isNode]
  have d1 : decide (v ≥ 0) = true := by rw [decide_eq_true_eq]; omega
  have d2 : decide (v < n.1) = true := by rw [decide_eq_true_eq]; omega
  simp only [d1, d2, cond_true, Option.bind_some, Bool.not_true, cond_false]
  have := (iter_fold (R := List Int) (body := r_impl_WiresAt_L0 e_impl_NetOk (fun a => r_impl_isNode N0 a.1 a.2.1) e_impl_WeightBetween N0) (List.range m) (fun (q : List Int) i => (v, n, q, n.1, i, ())) (fun i q => q.length ≤ i) (nearG n.2.2.2 v)
    (fun q i x kc ke hq hx hi => by
      obtain ⟨rfl, hxm⟩ := range_get hx
      have hlt : decide ((x : Int) < n.1) = true := by rw [decide_eq_true_eq, hm]; exact Int.ofNat_lt.2 hxm
      simp only [r_impl_WiresAt_L0, hlt, cond_true, p_WB n m hn hw, Option.bind_some, wr_succ hxm (by omega : m ≤ 9223372036854775807), nearG, List.length_cons, List.length_nil, Nat.zero_add, ble_true (show q.length + 1 ≤ 17179869184 by omega)]
      by_cases c : wbt n.2.2.2 v x > 0
      · simp only [c, decide_true, cond_true, if_true]
        exact ⟨trivial, by simp; omega⟩
      · simp only [c, decide_false, cond_false, if_false]
        exact ⟨trivial, by omega⟩)
    (fun q kc ke _ => by
      have hlt : decide ((((List.range m).length : Nat) : Int) < n.1) = false := by rw [decide_eq_false_iff_not, hm]; simp
      simp only [r_impl_WiresAt_L0, hlt, cond_false]) (N := N0) (by have := N0_big; simp; omega) [] (by simp) (fun s3 => some s3.2.2.1)).1
  exact this
theorem s_Near (n : TNet) (m : Nat) (hn : Sm.sm B1 n) (hm : n.1 = m) (hmB : m ≤ 5) (v : Int) : e_spec_l07Near (n, v, ()) = some (near n.2.2.2 v m) := by
  simp only [e_spec_l07Near, r_spec_l07Near]
  have := (iter_fold (R := List Int) (body := r_spec_l07Near_L0 e_spec_WeightBetween N0) (List.range m) (fun (q : List Int) i => (v, n, q, i, ())) (fun i q => q.length ≤ i) (nearG n.2.2.2 v)
    (fun q i x kc ke hq hx hi => by
      obtain ⟨rfl, hxm⟩ := range_get hx
      have hlt : decide ((x : Int) < n.1) = true := by rw [decide_eq_true_eq, hm]; exact Int.ofNat_lt.2 hxm
      simp only [r_spec_l07Near_L0, hlt, cond_true, s_WB n hn, Option.bind_some, wr_succ hxm (by omega : m ≤ 9223372036854775807), nearG, List.length_cons, List.length_nil, Nat.zero_add, ble_true (show q.length + 1 ≤ 17179869184 by omega)]
      by_cases c : wbt n.2.2.2 v x > 0
      · simp only [c, decide_true, cond_true, if_true]
        exact ⟨trivial, by simp; omega⟩
      · simp only [c, decide_false, cond_false, if_false]
        exact ⟨trivial, by omega⟩)
    (fun q kc ke _ => by
      have hlt : decide ((((List.range m).length : Nat) : Int) < n.1) = false := by rw [decide_eq_false_iff_not, hm]; simp
      simp only [r_spec_l07Near_L0, hlt, cond_false]) (N := N0) (by have := N0_big; simp; omega) [] (by simp) (fun s3 => some s3.2.2.1)).1
  exact this
theorem netok_facts {n : TNet} (h : netok n = true) : ∃ m : Nat, n.1 = m ∧ 1 ≤ m ∧ m ≤ 5 ∧ InW m n.2.2.2 ∧ 1 ≤ n.2.1 ∧ n.2.1 ≤ m := by
  have hh : hdrOk n = true := by revert h; simp only [netok]; cases hdrOk n <;> simp
  have hb : wiresBad n = false := by revert h; simp only [netok]; cases wiresBad n <;> simp
  simp only [hdrOk, Bool.and_eq_true, decide_eq_true_eq] at hh
  obtain ⟨m, hm⟩ : ∃ m : Nat, n.1 = m := ⟨n.1.toNat, by omega⟩
  exact ⟨m, hm, by omega, by omega, wiresOk hm hb, by omega, by omega⟩
end Go.Sx.R
namespace Go.Sx.R
open Go Go.Sx
def rng (lo : Int) (d : Nat) : List Int := (List.range d).map fun i => lo + Int.ofNat i
theorem rng_get {lo : Int} {d i : Nat} {v : Int} (h : (rng lo d)[i]? = some v) : v = lo + i ∧ i < d := by
  have hlt := get_lt h
  simp [rng] at hlt
  simp only [rng, List.getElem?_map, List.getElem?_range hlt, Option.map_some, Option.some.injEq] at h
  exact ⟨h.symm, hlt⟩
theorem rng_len {lo : Int} {d : Nat} : (rng lo d).length = d := by simp [rng]
theorem rng_succ (lo : Int) (d : Nat) : rng lo (d + 1) = rng lo d ++ [lo + d] := by
  simp [rng, List.range_succ]
theorem p_inner (n : TNet) (m : Nat) (hm : n.1 = m) (hmB : m ≤ 5) (h1 : 1 ≤ n.2.1) (h2 : n.2.1 ≤ m) : e_impl_inner (n, ()) = some (rng n.2.1 (m - n.2.1.toNat)) := by
  simp only [e_impl_inner, r_impl_inner]
  have hd : (List.range (m - n.2.1.toNat)).length = m - n.2.1.toNat := by simp
  have := iter_fold (R := List Int) (body := r_impl_inner_L0 N0) (List.range (m - n.2.1.toNat)) (fun (q : List Int) i => (n, q, n.2.1 + i, ())) (fun i q => q = rng n.2.1 i) (fun q i _ => q ++ [n.2.1 + (i : Int)])
    (fun q i x kc ke hq hx hi => by
      rw [hd] at hi
      have hlt : decide (n.2.1 + (i : Int) < n.1) = true := by rw [decide_eq_true_eq]; omega
      subst hq
      have hw : wr (n.2.1 + (i : Int) + 1) = n.2.1 + ((i + 1 : Nat) : Int) := by rw [wr_id (by omega) (by omega)]; omega
      simp only [r_impl_inner_L0, hlt, cond_true, List.length_cons, List.length_nil, Nat.zero_add, rng_len, ble_true (show i + 1 ≤ 17179869184 by omega), hw]
      exact ⟨trivial, (rng_succ _ _).symm⟩)
    (fun q kc ke _ => by
      have hlt : decide (n.2.1 + (((List.range (m - n.2.1.toNat)).length : Nat) : Int) < n.1) = false := by rw [decide_eq_false_iff_not, hd]; omega
      simp only [r_impl_inner_L0, hlt, cond_false]) (N := N0) (by have := N0_big; omega) [] (by simp [rng]) (fun s1 => some s1.2.1)
  have e0 : n.2.1 + (0 : Int) = n.2.1 := by omega
  simp only [e0] at this
  rw [this.1, this.2, hd]
def firstWith (n : TNet) (m : Nat) (count : Int) : Int := match (rng n.2.1 (m - n.2.1.toNat)).find? fun v => decide (((near n.2.2.2 v m).length : Int) = count) with
  | some v => v
  | none => -1
theorem p_nodeWith (n : TNet) (hn : Sm.sm B1 n) (count : Int) : ∃ r, e_impl_nodeWith (n, count, ()) = some r ∧ e_spec_l07First (n, count, ()) = some r := by
  simp only [e_impl_nodeWith, r_impl_nodeWith, e_spec_l07First, r_spec_l07First, p_NetOk n hn, s_NetOk n hn, Option.bind_some]
  cases hok : netok n with
  | false => exact ⟨-1, rfl, rfl⟩
  | true =>
    obtain ⟨m, hm, hm1, hm5, hw, he1, he2⟩ := netok_facts hok
    simp only [Bool.not_true, cond_false, p_inner n m hm hm5 he1 he2, Option.bind_some]
    refine ⟨firstWith n m count, ?_, ?_⟩
    · refine iter_rule (fun o => o = some (firstWith n m count)) (rng n.2.1 (m - n.2.1.toNat)) (fun (_ : Unit) i => (count, n, rng n.2.1 (m - n.2.1.toNat), (((rng n.2.1 (m - n.2.1.toNat)).length : Nat) : Int), i, ()))
        (fun i _ => ∀ (j : Nat) (y : Int), j < i → (rng n.2.1 (m - n.2.1.toNat))[j]? = some y → decide (((near n.2.2.2 y m).length : Int) = count) = false) (fun st i x kc hp hx hi hk => ?_) (fun st kc hp => ?_) (by rw [rng_len]; have := N0_big; omega) () (by simp)
      · have hxr := rng_get hx
        simp only [r_impl_nodeWith_L0, lt_len, hi, decide_true, cond_true, getI_nat, hx, Option.bind_some, wr_succ hi (by rw [rng_len]; omega), p_WiresAt n m hn hm hok x (by omega) (by omega)]
        cases hc : decide (((near n.2.2.2 x m).length : Int) = count) with
        | true => simp only [cond_true, firstWith, find_first _ _ i x hp hx hc]
        | false =>
          simp only [cond_false]
          refine hk () fun j y hj hy => ?_
          by_cases e : j = i
          · subst e; rw [hx] at hy; simp only [Option.some.injEq] at hy; subst hy; exact hc
          · exact hp j y (by omega) hy
      · simp only [r_impl_nodeWith_L0, not_lt_self, cond_false, firstWith, find_none _ _ fun j y hy => hp j y (get_lt hy) hy]
    · have hd : (rng n.2.1 (m - n.2.1.toNat)).length = m - n.2.1.toNat := rng_len
      have := iter_rule (R := Int) (body := r_spec_l07First_L0 e_spec_NetOk e_spec_l07Near N0) (ke := fun _ => some (-1)) (fun o => o = some (firstWith n m count)) (rng n.2.1 (m - n.2.1.toNat)) (fun (_ : Unit) i => (count, n, n.2.1 + i, ()))
        (fun i _ => ∀ (j : Nat) (y : Int), j < i → (rng n.2.1 (m - n.2.1.toNat))[j]? = some y → decide (((near n.2.2.2 y m).length : Int) = count) = false) (fun st i x kc hp hx hi hk => ?_) (fun st kc hp => ?_) (N := N0) (by rw [rng_len]; have := N0_big; omega) () (by simp)
      · have e0 : n.2.1 + (0 : Int) = n.2.1 := by omega
        simp only [e0] at this
        exact this
      · have hxr := rng_get hx
        have hlt : decide (n.2.1 + (i : Int) < n.1) = true := by rw [decide_eq_true_eq]; omega
        have hw : wr (n.2.1 + (i : Int) + 1) = n.2.1 + ((i + 1 : Nat) : Int) := by rw [wr_id (by omega) (by omega)]; omega
        simp only [r_spec_l07First_L0, hlt, cond_true, hw, s_Near n m hn hm hm5, Option.bind_some]
        rw [← hxr.1]
        cases hc : decide (((near n.2.2.2 x m).length : Int) = count) with
        | true => simp only [cond_true, firstWith, find_first _ _ i x hp hx hc]
        | false =>
          simp only [cond_false]
          refine hk () fun j y hj hy => ?_
          by_cases e : j = i
          · subst e; rw [hx] at hy; simp only [Option.some.injEq] at hy; subst hy; exact hc
          · exact hp j y (by omega) hy
      · have hlt : decide (n.2.1 + (((rng n.2.1 (m - n.2.1.toNat)).length : Nat) : Int) < n.1) = false := by rw [decide_eq_false_iff_not, hd]; omega
        simp only [r_spec_l07First_L0, hlt, cond_false, firstWith, find_none _ _ fun j y hy => hp j y (get_lt hy) hy]
end Go.Sx.R
namespace Go.Sx.R
open Go Go.Sx
theorem u64_id {x : Int} (h0 : 0 ≤ x) (h1 : x ≤ 18446744073709551615) : Go.IntKind.wrap Go.IntKind.u64 x = x := by
  simp only [IntKind.wrap, IntKind.bits, IntKind.signed]
  simp
  omega
theorem common_L0 : r_spec_GcdOf_L0 e_spec_l02Turn N0 = r_impl_common_L0 N0 := by
  funext s kc ke
  simp only [r_spec_GcdOf_L0, r_impl_common_L0, e_spec_l02Turn, r_spec_l02Turn]
  cases decide (s.2.1 = 0) <;> rfl
theorem common_loop (a b : Nat) (hb : b ≤ 9223372036854775807) : (iterK (r_impl_common_L0 N0) N0 ((a : Int), (b : Int), ()) fun s1 => some s1.1) = some ((Nat.gcd a b : Nat) : Int) := by
  refine iter_while (fun o => o = some ((Nat.gcd a b : Nat) : Int)) (fun s : Int × Int × Unit => ∃ x y : Nat, s = ((x : Int), (y : Int), ()) ∧ Nat.gcd x y = Nat.gcd a b) (fun s => s.2.1.toNat) ?_ N0 _ ⟨a, b, rfl, rfl⟩ (by have := N0_big; simp only [Int.toNat_natCast]; omega)
  rintro _ kc ⟨x, y, rfl, hg⟩ hk
  simp only [r_impl_common_L0]
  by_cases hy : y = 0
  · subst hy
    simp at hg
    simp [hg]
  · have d : decide ((y : Int) = 0) = false := by rw [decide_eq_false_iff_not]; omega
    simp only [d, Bool.not_false, cond_true, cond_false]
    have e : Int.tmod (x : Int) (y : Int) = ((x % y : Nat) : Int) := by rw [Int.tmod_eq_emod_of_nonneg (by omega)]; simp
    rw [e]
    refine hk _ ⟨y, x % y, rfl, ?_⟩ ?_
    · rw [← hg, Nat.gcd_comm y, ← Nat.gcd_rec, Nat.gcd_comm]
    · simp only [Int.toNat_natCast]
      exact Nat.mod_lt _ (by omega)
theorem p_common (a b : Nat) (hb : b ≤ 9223372036854775807) : e_impl_common ((a : Int), (b : Int), ()) = some ((Nat.gcd a b : Nat) : Int) := by
  simp only [e_impl_common, r_impl_common]
  exact common_loop a b hb
theorem s_Gcd (a b : Nat) (ha : a ≤ 9223372036854775807) (hb : b ≤ 9223372036854775807) : e_spec_GcdOf ((a : Int), (b : Int), ()) = some ((Nat.gcd a b : Nat) : Int) := by
  simp only [e_spec_GcdOf, r_spec_GcdOf, common_L0]
  have d1 : decide ((a : Int) < -9223372036854775807) = false := by rw [decide_eq_false_iff_not]; omega
  have d2 : decide ((b : Int) < -9223372036854775807) = false := by rw [decide_eq_false_iff_not]; omega
  have w1 : wr (0 - (a : Int)) = 0 - (a : Int) := wr_id (by omega) (by omega)
  have w2 : wr (0 - (b : Int)) = 0 - (b : Int) := wr_id (by omega) (by omega)
  rw [d1, d2, w1, w2]
  simp only [cond_false]
  rw [if_neg (by omega), if_neg (by omega)]
  exact common_loop a b hb
theorem p_size (a : Nat) (ha : a ≤ 9223372036854775807) : e_impl_size ((a : Int), ()) = some (a : Int) := by
  simp only [e_impl_size, r_impl_size]
  have d1 : decide ((a : Int) < 0) = false := by rw [decide_eq_false_iff_not]; omega
  rw [d1, cond_false, u64_id (by omega) (by omega)]
def touch (v : Int) (e : W3) : Int := if e.1 = v ∨ e.2.1 = v then e.2.2 else 0
def wAt (ws : List W3) (v : Int) : Int := (ws.map (touch v)).sum
theorem sum_bounds {β : Type} (h : β → Int) (M : Int) : ∀ (l : List β), (∀ x ∈ l, 0 ≤ h x ∧ h x ≤ M) → 0 ≤ (l.map h).sum ∧ (l.map h).sum ≤ M * l.length
  | [], _ => by simp
  | x :: l, hx => by
    have h1 := sum_bounds h M l fun y hy => hx y (by simp [hy])
    have h2 := hx x (by simp)
    simp only [List.map_cons, List.sum_cons, List.length_cons]
    have : M * ((l.length + 1 : Nat) : Int) = M * l.length + M := by rw [Int.natCast_add, Int.mul_add]; simp
    rw [this]; omega
theorem take_sum {β : Type} (h : β → Int) (M : Int) (l : List β) (hx : ∀ x ∈ l, 0 ≤ h x ∧ h x ≤ M) (i : Nat) : 0 ≤ ((l.take i).map h).sum ∧ ((l.take i).map h).sum ≤ M * l.length := by
  have h1 := sum_bounds h M (l.take i) fun y hy => hx y (List.mem_of_mem_take hy)
  refine ⟨h1.1, Int.le_trans h1.2 ?_⟩
  cases l with
  | nil => simp
  | cons x l =>
    have hM : 0 ≤ M := by have := hx x (by simp); omega
    refine Int.mul_le_mul_of_nonneg_left ?_ hM
    have : ((x :: l).take i).length ≤ (x :: l).length := by simp; omega
    omega
theorem take_succ_sum {β : Type} (h : β → Int) (l : List β) (i : Nat) (x : β) (hx : l[i]? = some x) : ((l.take (i + 1)).map h).sum = ((l.take i).map h).sum + h x := by
  rw [List.take_add_one, hx]
  simp
end Go.Sx.R
namespace Go.Sx.R
open Go Go.Sx
theorem wiresW {n : TNet} (h : netok n = true) : ∀ e ∈ n.2.2.2, 1 ≤ e.2.2 ∧ e.2.2 ≤ 200 := by
  intro e he
  have hb : wiresBad n = false := by revert h; simp only [netok]; cases wiresBad n <;> simp
  obtain ⟨i, hi⟩ := List.getElem?_of_mem he
  simp only [wiresBad, List.any_eq_false] at hb
  have := hb (e, i) (by rw [List.mem_zipIdx_iff_getElem?]; exact hi)
  simp only [badW, Bool.not_eq_true, Bool.or_eq_false_iff, Bool.not_eq_false', Bool.and_eq_true, decide_eq_true_eq] at this
  omega
theorem touch_le {ws : List W3} (hW : ∀ e ∈ ws, 1 ≤ e.2.2 ∧ e.2.2 ≤ 200) (v : Int) : ∀ e ∈ ws, 0 ≤ touch v e ∧ touch v e ≤ 200 := by
  intro e he
  have := hW e he
  unfold touch; split <;> omega
theorem p_WeightAt (n : TNet) (hn : Sm.sm B1 n) (hW : ∀ e ∈ n.2.2.2, 1 ≤ e.2.2 ∧ e.2.2 ≤ 200) (v : Int) : e_impl_WeightAt (n, v, ()) = some (wAt n.2.2.2 v) := by
  have hws : Sm.sm B1 n.2.2.2 := hn.2.2.2
  have hlen : n.2.2.2.length ≤ 1073741824 := hws.1
  simp only [e_impl_WeightAt, r_impl_WeightAt]
  have m := iter_fold (R := Int) (body := r_impl_WeightAt_L0 N0) n.2.2.2 (fun (s : Int) i => (v, s, n.2.2.2, (n.2.2.2.length : Int), i, ())) (fun i s => s = ((n.2.2.2.take i).map (touch v)).sum) (fun s _ x => s + touch v x)
    (fun s i x kc ke hs hx hi => by
      have b1 := take_sum (touch v) 200 n.2.2.2 (touch_le hW v) i
      have b2 := touch_le hW v x (List.mem_of_getElem? hx)
      refine ⟨?_, by rw [take_succ_sum _ _ _ _ hx, hs]⟩
      simp only [r_impl_WeightAt_L0, lt_len, hi, decide_true, cond_true, getI_nat, hx, Option.bind_some, wr_len hi hws]
      by_cases c1 : x.1 = v
      · have ht : touch v x = x.2.2 := by simp [touch, c1]
        have w1 : wr (s + x.2.2) = s + x.2.2 := wr_id (by omega) (by omega)
        simp only [c1, decide_true, cond_true, w1, ht]
      · by_cases c2 : x.2.1 = v
        · have ht : touch v x = x.2.2 := by simp [touch, c2]
          have w1 : wr (s + x.2.2) = s + x.2.2 := wr_id (by omega) (by omega)
          simp only [c1, c2, decide_true, decide_false, cond_true, cond_false, w1, ht]
        · have ht : touch v x = 0 := by simp [touch, c1, c2]
          simp only [c1, c2, decide_false, cond_false, ht, Int.add_zero])
    (fun s kc ke _ => by simp only [r_impl_WeightAt_L0, not_lt_self, cond_false]) (N := N0) (len_lt hws N0_gt) 0 (by simp) (fun s1 => some s1.2.1)
  have e := m.1
  rw [m.2, List.take_length] at e
  exact e
theorem e_WeightAt : e_spec_WeightAt = e_impl_WeightAt := rfl
end Go.Sx.R
namespace Go.Sx.R
open Go Go.Sx
theorem lex_trans {x y z : W3} (h1 : lex x y = true) (h2 : lex y z = true) : lex x z = true := by
  simp only [lex, Bool.or_eq_true, Bool.and_eq_true, decide_eq_true_eq] at *; omega
theorem lex_irr {x : W3} : lex x x = false := by simp [lex]
theorem lex_asym {x y : W3} (h1 : lex x y = true) (h2 : lex y x = true) : False := by
  have := lex_trans h1 h2; rw [lex_irr] at this; cases this
abbrev Srt (l : List W3) : Prop := l.Pairwise fun x y => lex x y = true
theorem srt_ext : ∀ {l m : List W3}, Srt l → Srt m → (∀ x, x ∈ l ↔ x ∈ m) → l = m
  | [], [], _, _, _ => rfl
  | [], y :: m, _, _, h => by have := (h y).2 (by simp); simp at this
  | x :: l, [], _, _, h => by have := (h x).1 (by simp); simp at this
  | x :: l, y :: m, hl, hm, h => by
    obtain ⟨hx, hl'⟩ := List.pairwise_cons.1 hl
    obtain ⟨hy, hm'⟩ := List.pairwise_cons.1 hm
    have e : x = y := by
      have h1 := (h x).1 (by simp)
      have h2 := (h y).2 (by simp)
      rcases List.mem_cons.1 h1 with e | h1
      · exact e
      · rcases List.mem_cons.1 h2 with e | h2
        · exact e.symm
        · exact (lex_asym (hx y h2) (hy x h1)).elim
    subst e
    have : l = m := srt_ext hl' hm' fun z => by
      constructor
      · intro hz
        rcases List.mem_cons.1 ((h z).1 (by simp [hz])) with e | hz'
        · subst e; have := hx z hz; rw [lex_irr] at this; cases this
        · exact hz'
      · intro hz
        rcases List.mem_cons.1 ((h z).2 (by simp [hz])) with e | hz'
        · subst e; have := hy z hz; rw [lex_irr] at this; cases this
        · exact hz'
    rw [this]
theorem srt_of_adj : ∀ {l : List W3}, (∀ (i : Nat) (x y : W3), l[i]? = some x → l[i + 1]? = some y → lex x y = true) → Srt l
  | [], _ => List.Pairwise.nil
  | [x], _ => by simp [Srt]
  | x :: y :: l, h => by
    have ih : Srt (y :: l) := srt_of_adj fun i a b ha hb => h (i + 1) a b (by simpa using ha) (by simpa using hb)
    have hxy := h 0 x y (by simp) (by simp)
    refine List.pairwise_cons.2 ⟨fun z hz => ?_, ih⟩
    rcases List.mem_cons.1 hz with rfl | hz
    · exact hxy
    · exact lex_trans hxy ((List.pairwise_cons.1 ih).1 z hz)
theorem netok_srt {n : TNet} (h : netok n = true) : Srt n.2.2.2 := by
  have hb : wiresBad n = false := by revert h; simp only [netok]; cases wiresBad n <;> simp
  refine srt_of_adj fun i x y hx hy => ?_
  simp only [wiresBad, List.any_eq_false] at hb
  have := hb (y, i + 1) (by rw [List.mem_zipIdx_iff_getElem?]; exact hy)
  simp only [badW, Bool.not_eq_true, Bool.or_eq_false_iff, hx] at this
  simpa using this.2
theorem srt_uniq {l : List W3} (h : Srt l) {x y : W3} (hx : x ∈ l) (hy : y ∈ l) (h1 : x.1 = y.1) (h2 : x.2.1 = y.2.1) : x = y := by
  induction l with
  | nil => simp at hx
  | cons z l ih =>
    obtain ⟨hz, hl⟩ := List.pairwise_cons.1 h
    rcases List.mem_cons.1 hx with rfl | hx' <;> rcases List.mem_cons.1 hy with e | hy'
    · exact e.symm
    · have := hz y hy'
      simp only [lex, Bool.or_eq_true, Bool.and_eq_true, decide_eq_true_eq] at this; omega
    · subst e
      have := hz x hx'
      simp only [lex, Bool.or_eq_true, Bool.and_eq_true, decide_eq_true_eq] at this; omega
    · exact ih hl hx' hy'
theorem wbt_mem {ws : List W3} (hs : Srt ws) {a b : Int} (hab : a < b) {w : Int} (hw : w ≠ 0) : wbt ws a b = w ↔ (a, b, w) ∈ ws := by
  have hp : ∀ x : W3, isW a b x = true ↔ x.1 = a ∧ x.2.1 = b := by
    intro x
    simp only [isW, Bool.and_eq_true, decide_eq_true_eq]
    rw [if_neg (by omega), if_pos (by omega)]
  rw [wbt, if_neg (by omega)]
  constructor
  · intro h
    split at h
    · rename_i x hx
      have h1 := (hp x).1 (List.find?_some hx)
      have h2 := List.mem_of_find?_eq_some hx
      obtain ⟨x1, x2, x3⟩ := x
      simp only at h1 h
      rw [h1.1, h1.2, h] at h2
      exact h2
    · exact absurd h.symm hw
  · intro h
    cases hf : ws.find? (isW a b) with
    | none =>
      rw [List.find?_eq_none] at hf
      exact absurd ((hp (a, b, w)).2 ⟨rfl, rfl⟩) (by simpa using hf _ h)
    | some x =>
      have h1 := (hp x).1 (List.find?_some hf)
      have h2 := List.mem_of_find?_eq_some hf
      have := srt_uniq hs h2 h h1.1 h1.2
      simp only
      rw [this]
def IsTab (T : List (List Int)) (m : Nat) (f : Nat → Nat → Int) : Prop := T.length = m ∧ ∀ i, i < m → ∃ row : List Int, T[i]? = some row ∧ row.length = m ∧ ∀ j, j < m → row[j]? = some (f i j)
theorem p_table (n : TNet) (m : Nat) (hn : Sm.sm B1 n) (hm : n.1 = m) (hm5 : m ≤ 5) (hw : InW m n.2.2.2) : ∃ T, e_impl_table (n, ()) = some T ∧ IsTab T m (fun i j => wbt n.2.2.2 (i : Int) (j : Int)) := by
  have hmB : m ≤ 9223372036854775807 := by omega
  have d0 : decide ((0 : Int) ≤ n.1) = true := by rw [decide_eq_true_eq]; omega
  have hmt : n.1.toNat = m := by omega
  have rm : Nat.ble m 17179869184 = true := ble_true (by omega)
  simp only [e_impl_table, r_impl_table, d0, cond_true, hmt, rm, List.length_replicate]
  have hd : (List.range m).length = m := by simp
  have hlm : ((m : Nat) : Int) = ((List.range m).length : Int) := by rw [hd]
  refine iter_rule (R := List (List Int)) (fun o => ∃ T, o = some T ∧ IsTab T m (fun i j => wbt n.2.2.2 (i : Int) (j : Int))) (List.range m) (fun (T : List (List Int)) i => (n, T, (m : Int), i, ()))
    (fun i T => T.length = m ∧ ∀ i', i' < i → ∃ row : List Int, T[i']? = some row ∧ row.length = m ∧ ∀ j, j < m → row[j]? = some (wbt n.2.2.2 (i' : Int) (j : Int)))
    (fun T i x kc ⟨p1, p2⟩ hx hi hk => ?_) (fun T kc ⟨p1, p2⟩ => ?_) (by have := N0_big; omega) _ ⟨by simp, by simp⟩
  · have him : i < m := by rw [hd] at hi; exact hi
    have d1 : decide ((i : Int) < (m : Int)) = true := by rw [decide_eq_true_eq]; omega
    obtain ⟨r0, hr0⟩ := getI_has p1 him
    have hset : (T.set i (List.replicate m (0 : Int)))[i]? = some (List.replicate m (0 : Int)) := by rw [List.getElem?_set_self (by omega)]
    simp only [r_impl_table_L0, d1, cond_true, d0, hmt, rm, hr0, Option.bind_some, Int.toNat_natCast, getI_nat, hset, List.length_replicate]
    refine iter_rule (R := List (List Int)) (fun o => ∃ T, o = some T ∧ IsTab T m (fun i j => wbt n.2.2.2 (i : Int) (j : Int))) (List.range m) (fun (T : List (List Int)) j => (n, T, (i : Int), (m : Int), (i : Int), (m : Int), j, ()))
      (fun j T => T.length = m ∧ (∀ i', i' < i → ∃ row : List Int, T[i']? = some row ∧ row.length = m ∧ ∀ j, j < m → row[j]? = some (wbt n.2.2.2 (i' : Int) (j : Int))) ∧ ∃ row : List Int, T[i]? = some row ∧ row.length = m ∧ ∀ j', j' < j → row[j']? = some (wbt n.2.2.2 (i : Int) (j' : Int)))
      (fun T j y kc2 ⟨q1, q2, row, q3, q4, q5⟩ hy hj hk2 => ?_) (fun T kc2 ⟨q1, q2, row, q3, q4, q5⟩ => ?_) (by have := N0_big; omega) _ ⟨by simpa using p1, fun i' hi' => ?_, List.replicate m 0, hset, by simp, by simp⟩
    · have hjm : j < m := by rw [hd] at hj; exact hj
      have d2 : decide ((j : Int) < (m : Int)) = true := by rw [decide_eq_true_eq]; omega
      obtain ⟨v0, hv0⟩ := getI_has q4 hjm
      simp only [r_impl_table_L2, d2, cond_true, getI_nat, q3, Option.bind_some, p_WB n m hn hw, Int.toNat_natCast]
      rw [← getI_nat row j, hv0, Option.bind_some, wr_succ hjm hmB]
      refine hk2 _ ⟨by simpa using q1, fun i' hi' => ?_, row.set j (wbt n.2.2.2 (i : Int) (j : Int)), by rw [List.getElem?_set_self (by omega)], by simpa using q4, fun j' hj' => ?_⟩
      · rw [List.getElem?_set_ne (by omega)]; exact q2 i' hi'
      · rw [List.getElem?_set]
        by_cases e : j = j'
        · subst e; rw [if_pos rfl, if_pos (by omega)]
        · rw [if_neg e]; exact q5 j' (by omega)
    · have d2 : decide ((((List.range m).length : Nat) : Int) < (m : Int)) = false := by rw [decide_eq_false_iff_not, hd]; omega
      simp only [r_impl_table_L2, d2, cond_false, wr_succ him hmB]
      refine hk _ ⟨q1, fun i' hi' => ?_⟩
      by_cases e : i' = i
      · subst e; exact ⟨row, q3, q4, fun j hj => q5 j (by rw [hd]; exact hj)⟩
      · exact q2 i' (by omega)
    · rw [List.getElem?_set_ne (by omega)]; exact p2 i' hi'
  · have d2 : decide ((((List.range m).length : Nat) : Int) < (m : Int)) = false := by rw [decide_eq_false_iff_not, hd]; omega
    simp only [r_impl_table_L0, d2, cond_false]
    exact ⟨T, rfl, p1, fun i hi => p2 i (by rw [hd]; exact hi)⟩
theorem IsTab.put {T : List (List Int)} {m : Nat} {f : Nat → Nat → Int} (h : IsTab T m f) {a b : Nat} {v : Int} (ha : a < m) {row : List Int} (hr : T[a]? = some row) : IsTab (T.set a (row.set b v)) m (fun i j => if i = a ∧ j = b then v else f i j) := by
  obtain ⟨h1, h2⟩ := h
  refine ⟨by simpa using h1, fun i hi => ?_⟩
  rw [List.getElem?_set]
  by_cases e : a = i
  · subst e
    obtain ⟨row', r1, r2, r3⟩ := h2 a hi
    rw [hr] at r1; simp only [Option.some.injEq] at r1; subst r1
    rw [if_pos rfl, if_pos (by omega)]
    refine ⟨_, rfl, by simpa using r2, fun j hj => ?_⟩
    rw [List.getElem?_set]
    by_cases e2 : b = j
    · subst e2; rw [if_pos rfl, if_pos (by omega)]; simp
    · rw [if_neg e2, r3 j hj]
      have : ¬ (True ∧ j = b) := by simp; omega
      simp; omega
  · rw [if_neg e]
    obtain ⟨row', r1, r2, r3⟩ := h2 i hi
    refine ⟨row', r1, r2, fun j hj => ?_⟩
    rw [r3 j hj]
    have : ¬ (i = a ∧ j = b) := by omega
    simp [this]
end Go.Sx.R
namespace Go.Sx.R
open Go Go.Sx
theorem p_ContainsI (xs : List Int) (v : Int) (hl : xs.length ≤ BB) : e_slices_Contains_int (xs, v, ()) = some (decide (v ∈ xs)) := by
  simp only [e_slices_Contains_int, r_slices_Contains_int, e_slices_Index_int, r_slices_Index_int]
  rw [iter_range (R := Int) xs (fun (_ : Unit) i => (xs, v, (xs.length : Int), i, ())) (fun _ i x k => cond (decide (v = x)) (some (i : Int)) (k ())) ?_ ?_ (by have := N0_gt; omega) ()]
  · have key : ∀ (l : List Int) (i : Nat), (rangeK l i () (fun _ i x k => cond (decide (v = x)) (some (i : Int)) (k ())) fun _ => some (-1 : Int)).bind (fun r => some (decide (r ≥ 0))) = some (decide (v ∈ l)) := by
      intro l
      induction l with
      | nil => intro i; simp [rangeK]
      | cons x l ih =>
        intro i
        simp only [rangeK]
        by_cases e : v = x
        · subst e; simp
        · simp only [e, decide_false, cond_false, ih (i + 1)]
          simp [e]
    exact key xs 0
  · intro st i x kc ke hx hi
    simp only [r_slices_Index_int_L0, lt_len, hi, decide_true, cond_true, getI_nat, hx, Option.bind_some]
    rw [wr_succ hi hl]
  · intro st kc ke
    simp only [r_slices_Index_int_L0, not_lt_self, cond_false]
theorem p_Clone (x : List Int) (hl : x.length ≤ 17179869184) : e_slices_Clone_int (x, ()) = some x := by
  have h : Nat.ble (List.length ([] : List Int) + x.length) 17179869184 = true := ble_true (by simp; omega)
  simp only [e_slices_Clone_int, r_slices_Clone_int, h, cond_true, List.nil_append]
  cases x with
  | nil => exact agree_same
  | cons a l => rfl
end Go.Sx.R
namespace Go.Sx.R
open Go Go.Sx
theorem wr_def (x : Int) : wr x = if 9223372036854775808 ≤ x % 18446744073709551616 then x % 18446744073709551616 - 18446744073709551616 else x % 18446744073709551616 := by
  show IntKind.i64.wrap x = _
  unfold IntKind.wrap
  have h1 : ((2 : Int) ^ IntKind.i64.bits) = 18446744073709551616 := by decide
  have h2 : ((2 : Int) ^ (IntKind.i64.bits - 1)) = 9223372036854775808 := by decide
  have h3 : IntKind.i64.signed = true := rfl
  simp only [h1, h2, h3, Bool.true_and, ge_iff_le, decide_eq_true_eq]
theorem wr_congr {x y : Int} (h : (x - y) % 18446744073709551616 = 0) : wr x = wr y := by
  have : x % 18446744073709551616 = y % 18446744073709551616 := by omega
  rw [wr_def, wr_def, this]
theorem wr_off (x : Int) : ∃ k, wr x = x + 18446744073709551616 * k := by
  have h : (wr x - x) % 18446744073709551616 = 0 := by rw [wr_def]; split <;> omega
  exact ⟨(wr x - x) / 18446744073709551616, by omega⟩
theorem wr_addM (x k : Int) : wr (x + 18446744073709551616 * k) = wr x := wr_congr (by omega)
theorem wr_wr (x : Int) : wr (wr x) = wr x := by obtain ⟨k, e⟩ := wr_off x; rw [e, wr_addM]; exact e
theorem wr_addl (x y : Int) : wr (wr x + y) = wr (x + y) := by
  obtain ⟨k, e⟩ := wr_off x
  exact wr_congr (by rw [e]; omega)
theorem wr_addr (x y : Int) : wr (x + wr y) = wr (x + y) := by rw [Int.add_comm, wr_addl, Int.add_comm]
theorem wr_mull (x y : Int) : wr (wr x * y) = wr (x * y) := by
  obtain ⟨k, e⟩ := wr_off x
  rw [e, Int.add_mul, Int.mul_assoc, wr_addM]
theorem wr_mulr (x y : Int) : wr (x * wr y) = wr (x * y) := by rw [Int.mul_comm, wr_mull, Int.mul_comm]
def at2 (m : List (List Int)) (r c : Int) : Int := (getI ((getI m r).getD []) c).getD 0
def dsum (m : List (List Int)) (r : Int) (D : Nat → Int) : List Int → Nat → Int → Int
  | [], _, _ => 0
  | c :: cs, j, sg => sg * at2 m r c * D j + dsum m r D cs (j + 1) (-sg)
def detZ (m : List (List Int)) : List Int → List Int → Int
  | [], _ => 1
  | r :: rows, cols => dsum m r (fun j => detZ m rows (cols.eraseIdx j)) cols 0 1
def stepD (m : List (List Int)) (r : Int) (D : Nat → Int) (st : Int × Int) (j : Nat) (c : Int) : Int × Int :=
  (if at2 m r c = 0 then st.1 else wr (st.1 + wr (wr (st.2 * at2 m r c) * wr (D j))), wr (0 - st.2))
theorem fold_det (m : List (List Int)) (r : Int) (D : Nat → Int) : ∀ (cs : List Int) (j : Nat) (s sg : Int), (sg = 1 ∨ sg = -1) → wr s = s → (foldI (stepD m r D) cs j (s, sg)).1 = wr (s + dsum m r D cs j sg)
  | [], _, s, _, _, hs => by simp only [foldI, dsum, Int.add_zero, hs]
  | c :: cs, j, s, sg, hg, hs => by
    have hsg : wr (0 - sg) = -sg := by rcases hg with rfl | rfl <;> rfl
    have h1 : (stepD m r D (s, sg) j c) = (wr (s + sg * at2 m r c * D j), -sg) := by
      simp only [stepD, hsg, Prod.mk.injEq, and_true]
      split
      · rename_i h; rw [h, Int.mul_zero, Int.zero_mul, Int.add_zero, hs]
      · rw [wr_addr, ← wr_addr s, wr_mull, wr_mulr, wr_addr]
    simp only [foldI, dsum, h1]
    rw [fold_det m r D cs (j + 1) _ _ (by rcases hg with rfl | rfl <;> simp) (wr_wr _), wr_addl, Int.add_assoc]
def Ent (m : List (List Int)) (rows cols : List Int) : Prop := ∀ r ∈ rows, ∃ row, getI m r = some row ∧ ∀ c ∈ cols, ∃ x, getI row c = some x
theorem Ent.at {m : List (List Int)} {rows cols : List Int} (h : Ent m rows cols) {r c : Int} (hr : r ∈ rows) (hc : c ∈ cols) : ∃ row, getI m r = some row ∧ getI row c = some (at2 m r c) := by
  obtain ⟨row, e1, h1⟩ := h r hr
  obtain ⟨x, e2⟩ := h1 c hc
  exact ⟨row, e1, by simp only [at2, e1, Option.getD_some, e2]⟩
theorem sgn_next {sg : Int} (hg : sg = 1 ∨ sg = -1) : wr (0 - sg) = 1 ∨ wr (0 - sg) = -1 := by rcases hg with rfl | rfl <;> decide
theorem p_det (m : List (List Int)) : ∀ (rows : List Int) (n : Nat) (cols : List Int), rows.length < n → rows.length ≤ 1073741824 → cols.length ≤ 1073741824 → Ent m rows cols → e_impl_det_n n (m, rows, cols, ()) = some (wr (detZ m rows cols))
  | [], n + 1, cols, _, _, _, _ => by simp [e_impl_det_n, r_impl_det, detZ]; rfl
  | r :: rows, n + 1, cols, hn, hrl, hl, he => by
    simp only [List.length_cons] at hn hrl
    have hd : decide ((((r :: rows).length : Nat) : Int) = 0) = false := by rw [decide_eq_false_iff_not]; simp; omega
    simp only [e_impl_det_n, r_impl_det, hd, cond_false, detZ]
    have q := iter_fold (R := Int) (body := r_impl_det_L0 e_slices_Clone_int e_slices_Delete_int (e_impl_det_n n) N0) cols (fun (st : Int × Int) i => (m, r :: rows, cols, st.1, st.2, cols, (cols.length : Int), i, ()))
      (fun _ st => st.2 = 1 ∨ st.2 = -1) (stepD m r (fun j => detZ m rows (cols.eraseIdx j)))
      (fun st i x kc ke hp hx hi => by
        refine ⟨?_, sgn_next hp⟩
        have hxm := List.mem_of_getElem? hx
        obtain ⟨row, e1, e2⟩ := he.at List.mem_cons_self hxm
        have g0 : getI (r :: rows) 0 = some r := rfl
        have w1 : wr ((i : Int) + 1) = ((i + 1 : Nat) : Int) := wr_succ hi (by omega)
        simp only [r_impl_det_L0, lt_len, hi, decide_true, cond_true, getI_nat, hx, Option.bind_some, g0, e1, e2, w1]
        by_cases hz : at2 m r x = 0
        · simp only [hz, decide_true, Bool.not_true, cond_false, stepD, if_true]
        · have d1 : decide ((1 : Int) ≤ (((r :: rows).length : Nat) : Int)) = true := by rw [decide_eq_true_eq]; simp; omega
          have hdel : e_slices_Delete_int cols ((i : Int), (((i + 1 : Nat) : Int), ())) = some (cols, cols.eraseIdx i) := by
            have hc : decide ((0 : Int) ≤ (i : Int) ∧ (i : Int) ≤ ((i + 1 : Nat) : Int) ∧ ((i + 1 : Nat) : Int) ≤ (cols.length : Int)) = true := by rw [decide_eq_true_eq]; omega
            simp only [e_slices_Delete_int, delFn, hc, cond_true, Int.toNat_natCast, List.eraseIdx_eq_take_drop_succ]
          have hrows : List.take ((((r :: rows).length : Nat) : Int).toNat - Int.toNat 1) (List.drop (Int.toNat 1) (r :: rows)) = rows := by
            show List.take ((((r :: rows).length : Nat) : Int).toNat - 1) (List.drop 1 (r :: rows)) = rows
            rw [Int.toNat_natCast]; simp
          have hrec := p_det m rows n (cols.eraseIdx i) (by omega) (by omega) (by rw [List.length_eraseIdx]; split <;> omega) (fun r' hr' => by
            obtain ⟨row', a1, a2⟩ := he r' (List.mem_cons_of_mem _ hr')
            exact ⟨row', a1, fun c hc => a2 c (List.mem_of_mem_eraseIdx hc)⟩)
          simp only [hz, decide_false, Bool.not_false, cond_true, d1, Int.le_refl, decide_true, p_Clone cols (by omega), Option.bind_some, hdel, hrows, hrec, stepD, if_false])
      (fun st kc ke _ => by simp only [r_impl_det_L0, not_lt_self, cond_false]) (N := N0) (by have := N0_big; omega) (0, 1) (.inl rfl) (fun s1 => some s1.2.2.2.1)
    rw [q.1, fold_det m r _ cols 0 0 1 (.inl rfl) rfl, Int.zero_add]
theorem s_det (m : List (List Int)) : ∀ (rows : List Int) (n : Nat) (cols : List Int), rows.length < n → rows.length ≤ 1073741824 → cols.length ≤ 1073741824 → Ent m rows cols → e_spec_l04Det_n n (m, rows, cols, ()) = some (wr (detZ m rows cols))
  | [], n + 1, cols, _, _, _, _ => by simp [e_spec_l04Det_n, r_spec_l04Det, detZ]; rfl
  | r :: rows, n + 1, cols, hn, hrl, hl, he => by
    simp only [List.length_cons] at hn hrl
    have hd : decide ((((r :: rows).length : Nat) : Int) = 0) = false := by rw [decide_eq_false_iff_not]; simp; omega
    simp only [e_spec_l04Det_n, r_spec_l04Det, hd, cond_false, detZ]
    have q := iter_fold (R := Int) (body := r_spec_l04Det_L0 (e_spec_l04Det_n n) N0) cols (fun (st : Int × Int) i => (m, r :: rows, cols, st.1, st.2, cols, (cols.length : Int), i, ()))
      (fun _ st => st.2 = 1 ∨ st.2 = -1) (stepD m r (fun j => detZ m rows (cols.eraseIdx j)))
      (fun st i x kc ke hp hx hi => by
        refine ⟨?_, sgn_next hp⟩
        have hxm := List.mem_of_getElem? hx
        obtain ⟨row, e1, e2⟩ := he.at List.mem_cons_self hxm
        have g0 : getI (r :: rows) 0 = some r := rfl
        have w1 : wr ((i : Int) + 1) = ((i + 1 : Nat) : Int) := wr_succ hi (by omega)
        simp only [r_spec_l04Det_L0, lt_len, hi, decide_true, cond_true, getI_nat, hx, Option.bind_some, g0, e1, e2, w1]
        by_cases hz : at2 m r x = 0
        · simp only [hz, decide_true, Bool.not_true, cond_false, stepD, if_true]
        · have d1 : decide ((1 : Int) ≤ (((r :: rows).length : Nat) : Int)) = true := by rw [decide_eq_true_eq]; simp; omega
          have d2 : decide ((0 : Int) ≤ (i : Int)) = true := by rw [decide_eq_true_eq]; omega
          have d3 : decide ((i : Int) ≤ (cols.length : Int)) = true := by rw [decide_eq_true_eq]; omega
          have d4 : decide ((0 : Int) ≤ ((i + 1 : Nat) : Int)) = true := by rw [decide_eq_true_eq]; omega
          have d5 : decide (((i + 1 : Nat) : Int) ≤ (cols.length : Int)) = true := by rw [decide_eq_true_eq]; omega
          have t1 : List.take ((i : Int).toNat - Int.toNat 0) (List.drop (Int.toNat 0) cols) = cols.take i := by
            show List.take ((i : Int).toNat - 0) (List.drop 0 cols) = _
            rw [Int.toNat_natCast]; simp
          have t2 : List.take ((cols.length : Int).toNat - (((i + 1 : Nat) : Int)).toNat) (List.drop (((i + 1 : Nat) : Int)).toNat cols) = cols.drop (i + 1) := by
            rw [Int.toNat_natCast, Int.toNat_natCast]
            exact List.take_of_length_le (by simp)
          have b1 : Nat.ble (List.length ([] : List Int) + (cols.take i).length) 17179869184 = true := ble_true (by simp; omega)
          have b2 : Nat.ble ((([] : List Int) ++ cols.take i).length + (cols.drop (i + 1)).length) 17179869184 = true := ble_true (by simp; omega)
          have t3 : ([] : List Int) ++ cols.take i ++ cols.drop (i + 1) = cols.eraseIdx i := by rw [List.eraseIdx_eq_take_drop_succ]; rfl
          have hrows : List.take ((((r :: rows).length : Nat) : Int).toNat - Int.toNat 1) (List.drop (Int.toNat 1) (r :: rows)) = rows := by
            show List.take ((((r :: rows).length : Nat) : Int).toNat - 1) (List.drop 1 (r :: rows)) = rows
            rw [Int.toNat_natCast]; simp
          have hrec := s_det m rows n (cols.eraseIdx i) (by omega) (by omega) (by rw [List.length_eraseIdx]; split <;> omega) (fun r' hr' => by
            obtain ⟨row', a1, a2⟩ := he r' (List.mem_cons_of_mem _ hr')
            exact ⟨row', a1, fun c hc => a2 c (List.mem_of_mem_eraseIdx hc)⟩)
          simp only [hz, decide_false, Bool.not_false, cond_true, d1, d2, d3, d4, d5, t1, t2, b1, b2, t3, Int.le_refl, decide_true, Option.bind_some, hrows, hrec, stepD, if_false])
      (fun st kc ke _ => by simp only [r_spec_l04Det_L0, not_lt_self, cond_false]) (N := N0) (by have := N0_big; omega) (0, 1) (.inl rfl) (fun s1 => some s1.2.2.2.1)
    rw [q.1, fold_det m r _ cols 0 0 1 (.inl rfl) rfl, Int.zero_add]
theorem p_det0 (m : List (List Int)) (rows cols : List Int) (h1 : rows.length ≤ 1073741824) (h2 : cols.length ≤ 1073741824) (he : Ent m rows cols) : e_impl_det (m, rows, cols, ()) = some (wr (detZ m rows cols)) :=
  p_det m rows N0 cols (by have := N0_big; omega) h1 h2 he
theorem s_det0 (m : List (List Int)) (rows cols : List Int) (h1 : rows.length ≤ 1073741824) (h2 : cols.length ≤ 1073741824) (he : Ent m rows cols) : e_spec_l04Det (m, rows, cols, ()) = some (wr (detZ m rows cols)) :=
  s_det m rows N0 cols (by have := N0_big; omega) h1 h2 he
end Go.Sx.R
namespace Go.Sx.R
open Go Go.Sx
theorem IsTab.congr {T : List (List Int)} {m : Nat} {f g : Nat → Nat → Int} (h : IsTab T m f) (e : ∀ i j, i < m → j < m → f i j = g i j) : IsTab T m g :=
  ⟨h.1, fun i hi => by obtain ⟨row, r1, r2, r3⟩ := h.2 i hi; exact ⟨row, r1, r2, fun j hj => by rw [r3 j hj, e i j hi hj]⟩⟩
theorem IsTab.uniq {T U : List (List Int)} {m : Nat} {f : Nat → Nat → Int} (h : IsTab T m f) (h' : IsTab U m f) : T = U := by
  apply List.ext_getElem?; intro i
  by_cases hi : i < m
  · obtain ⟨r, r1, r2, r3⟩ := h.2 i hi
    obtain ⟨s, s1, s2, s3⟩ := h'.2 i hi
    rw [r1, s1]
    congr 1
    apply List.ext_getElem?; intro j
    by_cases hj : j < m
    · rw [r3 j hj, s3 j hj]
    · rw [List.getElem?_eq_none (by omega), List.getElem?_eq_none (by omega)]
  · rw [List.getElem?_eq_none (by have := h.1; omega), List.getElem?_eq_none (by have := h'.1; omega)]
theorem foldI_ixmap {β γ : Type} (f : Nat → γ) : ∀ (l : List β) (i : Nat) (st : List γ), foldI (fun st i _ => st ++ [f i]) l i st = st ++ (List.range' i l.length).map f
  | [], _, st => by simp [foldI]
  | x :: l, i, st => by simp only [foldI, foldI_ixmap f l (i + 1), List.length_cons, List.range'_succ, List.map_cons, List.append_assoc, List.singleton_append]
def lapF (ws : List W3) (i j : Nat) : Int := if i = j then wAt ws (i : Int) else - wbt ws (i : Int) (j : Int)
theorem wbt_bd {ws : List W3} (hW : ∀ e ∈ ws, 1 ≤ e.2.2 ∧ e.2.2 ≤ 200) (a b : Int) : 0 ≤ wbt ws a b ∧ wbt ws a b ≤ 200 := by
  unfold wbt
  split
  · omega
  · split
    · rename_i x hx
      have := hW x (List.mem_of_find?_eq_some hx); omega
    · omega
theorem s_Lap (n : TNet) (m : Nat) (hn : Sm.sm B1 n) (hok : netok n = true) (hm : n.1 = m) (hm5 : m ≤ 5) (hW : ∀ e ∈ n.2.2.2, 1 ≤ e.2.2 ∧ e.2.2 ≤ 200) : ∃ L, e_spec_LaplacianOf (n, ()) = some L ∧ IsTab L m (lapF n.2.2.2) := by
  have hd : (List.range m).length = m := by simp
  simp only [e_spec_LaplacianOf, r_spec_LaplacianOf, s_NetOk n hn, hok, Option.bind_some, Bool.not_true, cond_false]
  have a := iter_fold (R := List (List Int)) (body := r_spec_LaplacianOf_L0 e_spec_NetOk e_spec_WeightAt e_spec_WeightBetween N0) (List.range m) (fun (st : List (List Int)) i => (n, st, i, ())) (fun i st => st.length = i) (fun st i _ => st ++ [(List.range' 0 m).map (lapF n.2.2.2 i)])
    (fun st i x kc ke hs hx hi => by
      rw [hd] at hi
      refine ⟨?_, by simp [hs]⟩
      have d1 : decide ((i : Int) < n.1) = true := by rw [decide_eq_true_eq]; omega
      have b := iter_fold (R := List (List Int)) (body := r_spec_LaplacianOf_L2 e_spec_NetOk e_spec_WeightAt e_spec_WeightBetween N0) (List.range m) (fun (row : List Int) j => (n, st, (i : Int), row, j, ())) (fun j row => row.length = j) (fun row j _ => row ++ [lapF n.2.2.2 i j])
        (fun row j y kc ke hl hy hj => by
          rw [hd] at hj
          refine ⟨?_, by simp [hl]⟩
          have d2 : decide ((j : Int) < n.1) = true := by rw [decide_eq_true_eq]; omega
          have bd := wbt_bd hW (i : Int) (j : Int)
          have w : wr (0 - wbt n.2.2.2 (i : Int) (j : Int)) = - wbt n.2.2.2 (i : Int) (j : Int) := by rw [wr_id (by omega) (by omega)]; omega
          have bl : ∀ v : Int, Nat.ble (row.length + List.length (v :: ([] : List Int))) 17179869184 = true := fun v => ble_true (by simp; omega)
          simp only [r_spec_LaplacianOf_L2, d2, cond_true, e_WeightAt, p_WeightAt n hn hW, s_WB n hn, Option.bind_some, bl, w, wr_succ hj (show m ≤ 9223372036854775807 by omega)]
          by_cases e : i = j
          · subst e; simp only [decide_true, cond_true, lapF, if_true]
          · have d3 : decide ((i : Int) = (j : Int)) = false := by rw [decide_eq_false_iff_not]; omega
            simp only [d3, cond_false, lapF, if_neg e])
        (fun row kc ke _ => by
          have d2 : decide ((((List.range m).length : Nat) : Int) < n.1) = false := by rw [decide_eq_false_iff_not, hd]; omega
          simp only [r_spec_LaplacianOf_L2, d2, cond_false]) (N := N0) (by have := N0_big; omega) [] rfl
      have bl : Nat.ble (st.length + List.length (((List.range' 0 m).map (lapF n.2.2.2 i)) :: ([] : List (List Int)))) 17179869184 = true := ble_true (by simp; omega)
      simp only [r_spec_LaplacianOf_L0, d1, cond_true]
      rw [(b _).1]
      simp only [foldI_ixmap (lapF n.2.2.2 i), List.nil_append, hd, bl, cond_true, wr_succ hi (show m ≤ 9223372036854775807 by omega)])
    (fun st kc ke _ => by
      have d2 : decide ((((List.range m).length : Nat) : Int) < n.1) = false := by rw [decide_eq_false_iff_not, hd]; omega
      simp only [r_spec_LaplacianOf_L0, d2, cond_false]) (N := N0) (by have := N0_big; omega) [] rfl (fun s2 => some s2.2.1)
  refine ⟨_, a.1, ?_⟩
  simp only [foldI_ixmap (fun i => (List.range' 0 m).map (lapF n.2.2.2 i)), List.nil_append, hd]
  refine ⟨by simp, fun i hi => ⟨(List.range' 0 m).map (lapF n.2.2.2 i), ?_, by simp, fun j hj => ?_⟩⟩
  · rw [List.getElem?_map, List.getElem?_range' hi]; simp
  · rw [List.getElem?_map, List.getElem?_range' hj]; simp
theorem p_Lap (n : TNet) (m : Nat) (hn : Sm.sm B1 n) (hok : netok n = true) (hm : n.1 = m) (hm5 : m ≤ 5) (hin : InW m n.2.2.2) (hW : ∀ e ∈ n.2.2.2, 1 ≤ e.2.2 ∧ e.2.2 ≤ 200) : ∃ L, e_impl_LaplacianOf (n, ()) = some L ∧ IsTab L m (lapF n.2.2.2) := by
  have hd : (List.range m).length = m := by simp
  have hmB : m ≤ 9223372036854775807 := by omega
  obtain ⟨T, hT, hTab⟩ := p_table n m hn hm hm5 hin
  simp only [e_impl_LaplacianOf, r_impl_LaplacianOf, p_NetOk n hn, hok, Option.bind_some, Bool.not_true, cond_false, hT]
  have hlm : ((T.length : Nat) : Int) = (m : Int) := by rw [hTab.1]
  rw [hlm]
  refine iter_rule (R := List (List Int)) (fun o => ∃ L, o = some L ∧ IsTab L m (lapF n.2.2.2)) (List.range m) (fun (T : List (List Int)) i => (n, T, (m : Int), i, ()))
    (fun i T => IsTab T m (fun a b => if a < i then lapF n.2.2.2 a b else wbt n.2.2.2 (a : Int) (b : Int))) (fun T i x kc hp hx hi hk => ?_) (fun T kc hp => ?_) (by have := N0_big; omega) T (by simpa using hTab)
  · rw [hd] at hi
    have d1 : decide ((i : Int) < (m : Int)) = true := by rw [decide_eq_true_eq]; omega
    have hlT : ((T.length : Nat) : Int) = (m : Int) := by rw [hp.1]
    simp only [r_impl_LaplacianOf_L0, d1, cond_true, hlT]
    refine iter_rule (R := List (List Int)) (fun o => ∃ L, o = some L ∧ IsTab L m (lapF n.2.2.2)) (List.range m) (fun (T : List (List Int)) j => (n, T, (i : Int), (m : Int), (i : Int), (m : Int), j, ()))
      (fun j T => IsTab T m (fun a b => if a < i then lapF n.2.2.2 a b else if a = i ∧ b < j then - wbt n.2.2.2 (a : Int) (b : Int) else wbt n.2.2.2 (a : Int) (b : Int))) (fun T j y kc2 hq hy hj hk2 => ?_) (fun T kc2 hq => ?_) (by have := N0_big; omega) T (hp.congr fun a b _ _ => by simp)
    · rw [hd] at hj
      have d2 : decide ((j : Int) < (m : Int)) = true := by rw [decide_eq_true_eq]; omega
      obtain ⟨row, r1, r2, r3⟩ := hq.2 i hi
      have g := r3 j hj
      simp only [Nat.lt_irrefl, if_false, and_false] at g
      have bd := wbt_bd hW (i : Int) (j : Int)
      have w : wr (0 - wbt n.2.2.2 (i : Int) (j : Int)) = - wbt n.2.2.2 (i : Int) (j : Int) := by rw [wr_id (by omega) (by omega)]; omega
      simp only [r_impl_LaplacianOf_L2, d2, cond_true, getI_nat, r1, Option.bind_some, g, w, Int.toNat_natCast, wr_succ hj hmB]
      refine hk2 _ ((hq.put (v := - wbt n.2.2.2 (i : Int) (j : Int)) (b := j) hi r1).congr fun a b _ _ => ?_)
      by_cases e : a = i ∧ b = j
      · rw [if_pos e, e.1, e.2, if_neg (by omega), if_pos (by omega)]
      · rw [if_neg e]
        by_cases e1 : a < i
        · rw [if_pos e1, if_pos e1]
        · rw [if_neg e1, if_neg e1]
          by_cases e2 : a = i ∧ b < j
          · rw [if_pos e2, if_pos (by omega)]
          · rw [if_neg e2, if_neg (by omega)]
    · have d2 : decide ((((List.range m).length : Nat) : Int) < (m : Int)) = false := by rw [decide_eq_false_iff_not, hd]; omega
      obtain ⟨row, r1, r2, r3⟩ := hq.2 i hi
      have g := r3 i hi
      simp only [r_impl_LaplacianOf_L2, d2, cond_false, getI_nat, r1, Option.bind_some, p_WeightAt n hn hW, g, Int.toNat_natCast, wr_succ hi hmB]
      refine hk _ ((hq.put (v := wAt n.2.2.2 (i : Int)) (b := i) hi r1).congr fun a b ha hb => ?_)
      rw [hd]
      by_cases e : a = i ∧ b = i
      · rw [if_pos e, e.1, e.2, if_pos (by omega)]; simp [lapF]
      · rw [if_neg e]
        by_cases e1 : a < i
        · rw [if_pos e1, if_pos (by omega)]
        · rw [if_neg e1]
          by_cases e2 : a = i
          · rw [if_pos ⟨e2, hb⟩, if_pos (by omega), lapF, if_neg (by omega)]
          · rw [if_neg (by omega), if_neg (by omega)]
  · have d2 : decide ((((List.range m).length : Nat) : Int) < (m : Int)) = false := by rw [decide_eq_false_iff_not, hd]; omega
    simp only [r_impl_LaplacianOf_L0, d2, cond_false]
    exact ⟨T, rfl, hp.congr fun a b ha _ => by rw [hd, if_pos ha]⟩
theorem lap_both (n : TNet) (m : Nat) (hn : Sm.sm B1 n) (hok : netok n = true) (hm : n.1 = m) (hm5 : m ≤ 5) (hin : InW m n.2.2.2) (hW : ∀ e ∈ n.2.2.2, 1 ≤ e.2.2 ∧ e.2.2 ≤ 200) : ∃ L, e_impl_LaplacianOf (n, ()) = some L ∧ e_spec_LaplacianOf (n, ()) = some L ∧ IsTab L m (lapF n.2.2.2) := by
  obtain ⟨L, h1, h2⟩ := p_Lap n m hn hok hm hm5 hin hW
  obtain ⟨L', h3, h4⟩ := s_Lap n m hn hok hm hm5 hW
  exact ⟨L, h1, by rw [h3, h2.uniq h4], h2⟩
end Go.Sx.R
namespace Go.Sx.R
open Go Go.Sx
theorem p_sizeI (n : Int) (h1 : -9223372036854775807 ≤ n) (h2 : n ≤ 9223372036854775807) : e_impl_size (n, ()) = some (n.natAbs : Int) := by
  simp only [e_impl_size, r_impl_size]
  by_cases h : n < 0
  · have e : Go.IntKind.wrap Go.IntKind.u64 (0 - Go.IntKind.wrap Go.IntKind.u64 n) = (n.natAbs : Int) := by
      simp only [IntKind.wrap, IntKind.bits, IntKind.signed]
      simp
      omega
    simp only [h, decide_true, cond_true, e]
  · simp only [h, decide_false, cond_false]
    rw [u64_id (by omega) (by omega)]
    congr 1; omega
theorem s_GcdI (a b : Int) (ha : -9223372036854775807 ≤ a) (ha2 : a ≤ 9223372036854775807) (hb : -9223372036854775807 ≤ b) (hb2 : b ≤ 9223372036854775807) : e_spec_GcdOf (a, b, ()) = some ((Nat.gcd a.natAbs b.natAbs : Nat) : Int) := by
  simp only [e_spec_GcdOf, r_spec_GcdOf, common_L0]
  have d1 : decide (a < -9223372036854775807) = false := by rw [decide_eq_false_iff_not]; omega
  have d2 : decide (b < -9223372036854775807) = false := by rw [decide_eq_false_iff_not]; omega
  have w1 : wr (0 - a) = 0 - a := wr_id (by omega) (by omega)
  have w2 : wr (0 - b) = 0 - b := wr_id (by omega) (by omega)
  have e1 : (if 0 - a > a then 0 - a else a) = (a.natAbs : Int) := by split <;> omega
  have e2 : (if 0 - b > b then 0 - b else b) = (b.natAbs : Int) := by split <;> omega
  rw [d1, d2, w1, w2]
  simp only [cond_false]
  rw [e1, e2]
  exact common_loop a.natAbs b.natAbs (by omega)
theorem ok_core (N : Int) (p q : Nat) (hN : N.natAbs = p) (hq : 1 ≤ q) (hq2 : q ≤ 9223372036854775807) (hp : p ≤ 9223372036854775807) (hc : Nat.gcd p q = 1) :
    e_spec_RatioOk ((N, (q : Int)), ()) = some (decide (q ≤ 1000000000000000) && decide (p ≤ 1000000000000000000)) := by
  simp only [e_spec_RatioOk, r_spec_RatioOk, p_l01In, n_l01In, Option.bind_some, s_GcdI N (q : Int) (by omega) (by omega) (by omega) (by omega), Int.natAbs_natCast, hN, hc]
  by_cases h1 : q ≤ 1000000000000000
  · have r1 : (decide (1 ≤ (q : Int)) && decide ((q : Int) ≤ 1000000000000000)) = true := by simp only [Bool.and_eq_true, decide_eq_true_eq]; omega
    by_cases h2 : p ≤ 1000000000000000000
    · have r2 : (decide (-1000000000000000000 ≤ N) && decide (N ≤ 1000000000000000000)) = true := by simp only [Bool.and_eq_true, decide_eq_true_eq]; omega
      simp [r1, r2, h1, h2]
    · have r2 : (decide (-1000000000000000000 ≤ N) && decide (N ≤ 1000000000000000000)) = false := by simp only [Bool.and_eq_false_iff, decide_eq_false_iff_not]; omega
      simp [r1, r2, h2]
  · have r1 : (decide (1 ≤ (q : Int)) && decide ((q : Int) ≤ 1000000000000000)) = false := by simp only [Bool.and_eq_false_iff, decide_eq_false_iff_not]; omega
    simp [r1, h1]
theorem tdiv_abs (n : Int) (g : Nat) : (0 ≤ n → Int.tdiv n (g : Int) = ((n.natAbs / g : Nat) : Int)) ∧ (n < 0 → Int.tdiv n (g : Int) = -((n.natAbs / g : Nat) : Int)) := by
  refine ⟨fun h => ?_, fun h => ?_⟩
  · have e : n = ((n.natAbs : Nat) : Int) := by omega
    rw [e, Int.tdiv_eq_ediv_of_nonneg (by omega)]; simp
  · have e : n = -((n.natAbs : Nat) : Int) := by omega
    have : Int.tdiv (-((n.natAbs : Nat) : Int)) (g : Int) = -((n.natAbs / g : Nat) : Int) := by
      rw [Int.neg_tdiv, Int.tdiv_eq_ediv_of_nonneg (by omega)]; simp
    rw [← e] at this; exact this
theorem ratio_all (n d : Int) (hn : -9223372036854775807 ≤ n) (hn2 : n ≤ 9223372036854775807) (hd : -9223372036854775807 ≤ d) (hd2 : d ≤ 9223372036854775807) : ∃ r, e_impl_RatioOf (n, d, ()) = some r ∧ e_spec_RatioOf (n, d, ()) = some r ∧ Sm.sm B1 r := by
  have zz : Sm.sm B1 (((0 : Int), (0 : Int))) := ⟨⟨by omega, by omega⟩, ⟨by omega, by omega⟩⟩
  simp only [e_impl_RatioOf, r_impl_RatioOf, e_spec_RatioOf, r_spec_RatioOf, p_sizeI n hn hn2, p_sizeI d hd hd2, p_common n.natAbs d.natAbs (by omega), s_GcdI n d hn hn2 hd hd2, Option.bind_some]
  by_cases h0 : d = 0
  · subst h0
    exact ⟨(0, 0), by simp, by simp, zz⟩
  · have hg : 0 < Nat.gcd n.natAbs d.natAbs := Nat.gcd_pos_of_pos_right _ (by omega)
    have hga : Nat.gcd n.natAbs d.natAbs ∣ n.natAbs := Nat.gcd_dvd_left _ _
    have hgb : Nat.gcd n.natAbs d.natAbs ∣ d.natAbs := Nat.gcd_dvd_right _ _
    have hgl : Nat.gcd n.natAbs d.natAbs ≤ d.natAbs := Nat.le_of_dvd (by omega) hgb
    have la : n.natAbs / Nat.gcd n.natAbs d.natAbs ≤ n.natAbs := Nat.div_le_self _ _
    have lb : d.natAbs / Nat.gcd n.natAbs d.natAbs ≤ d.natAbs := Nat.div_le_self _ _
    have pb : 0 < d.natAbs / Nat.gcd n.natAbs d.natAbs := Nat.div_pos hgl hg
    have cop : Nat.gcd (n.natAbs / Nat.gcd n.natAbs d.natAbs) (d.natAbs / Nat.gcd n.natAbs d.natAbs) = 1 := by rw [Nat.gcd_div hga hgb, Nat.div_self hg]
    have tn := tdiv_abs n (Nat.gcd n.natAbs d.natAbs)
    have td := tdiv_abs d (Nat.gcd n.natAbs d.natAbs)
    have ta : Int.tdiv (n.natAbs : Int) ((Nat.gcd n.natAbs d.natAbs : Nat) : Int) = ((n.natAbs / Nat.gcd n.natAbs d.natAbs : Nat) : Int) := by rw [Int.tdiv_eq_ediv_of_nonneg (by omega)]; simp
    have tb : Int.tdiv (d.natAbs : Int) ((Nat.gcd n.natAbs d.natAbs : Nat) : Int) = ((d.natAbs / Nat.gcd n.natAbs d.natAbs : Nat) : Int) := by rw [Int.tdiv_eq_ediv_of_nonneg (by omega)]; simp
    rw [ta, tb]
    generalize hG : Nat.gcd n.natAbs d.natAbs = g at *
    generalize hP : n.natAbs / g = p at *
    generalize hQ : d.natAbs / g = q at *
    have d1 : decide (d = 0) = false := by rw [decide_eq_false_iff_not]; exact h0
    have d2 : decide ((g : Int) = 0) = false := by rw [decide_eq_false_iff_not]; omega
    have ua : Go.IntKind.wrap Go.IntKind.u64 ((p : Nat) : Int) = ((p : Nat) : Int) := u64_id (by omega) (by omega)
    have ub : Go.IntKind.wrap Go.IntKind.u64 ((q : Nat) : Int) = ((q : Nat) : Int) := u64_id (by omega) (by omega)
    have wa : wr ((p : Nat) : Int) = ((p : Nat) : Int) := wr_id (by omega) (by omega)
    have wb : wr ((q : Nat) : Int) = ((q : Nat) : Int) := wr_id (by omega) (by omega)
    have wn : wr (0 - ((p : Nat) : Int)) = -((p : Nat) : Int) := by rw [wr_id (by omega) (by omega)]; omega
    have wa' : wr (-((p : Nat) : Int)) = -((p : Nat) : Int) := wr_id (by omega) (by omega)
    have wg : wr (0 - (g : Int)) = -(g : Int) := by rw [wr_id (by omega) (by omega)]; omega
    have dg : decide (-(g : Int) = 0) = false := by rw [decide_eq_false_iff_not]; omega
    have k1 : decide ((p : Int) > 1000000000000000000) = !decide (p ≤ 1000000000000000000) := by rw [Bool.eq_iff_iff]; simp; omega
    have k2 : decide ((q : Int) > 1000000000000000) = !decide (q ≤ 1000000000000000) := by rw [Bool.eq_iff_iff]; simp; omega
    have ok1 := ok_core (p : Int) p q (by omega) (by omega) (by omega) (by omega) cop
    have ok2 := ok_core (-(p : Int)) p q (by omega) (by omega) (by omega) (by omega) cop
    have fin : ∀ N : Int, N.natAbs = p → ∃ r : Int × Int, (cond (decide ((p : Int) > 1000000000000000000)) (some ((0 : Int), (0 : Int))) (cond (decide ((q : Int) > 1000000000000000)) (some (0, 0)) (some (N, (q : Int))))) = some r ∧
        (cond (!(decide (q ≤ 1000000000000000) && decide (p ≤ 1000000000000000000))) (some ((0 : Int), (0 : Int))) (some (N, (q : Int)))) = some r ∧ Sm.sm B1 r := by
      intro N hN
      rw [k1, k2]
      cases decide (p ≤ 1000000000000000000) with
      | false => exact ⟨(0, 0), rfl, by simp, zz⟩
      | true =>
        cases decide (q ≤ 1000000000000000) with
        | false => exact ⟨(0, 0), rfl, rfl, zz⟩
        | true => exact ⟨(N, (q : Int)), rfl, rfl, ⟨by omega, by omega⟩, ⟨by omega, by omega⟩⟩
    simp only [d1, d2, cond_false, ua, ub, wa, wb, wn]
    by_cases sn : n < 0
    · have t1 := tn.2 sn
      by_cases sd : d < 0
      · have t2 := td.2 sd
        have e1 : Int.tdiv n (-(g : Int)) = (p : Int) := by rw [Int.tdiv_neg, t1]; omega
        have e2 : Int.tdiv d (-(g : Int)) = (q : Int) := by rw [Int.tdiv_neg, t2]; omega
        simp only [sn, sd, decide_true, beqB_self, Bool.not_true, cond_false, cond_true, wg, dg, e1, e2, wa, wb, ok1, Option.bind_some]
        exact fin _ (by omega)
      · have t2 := td.1 (by omega)
        simp only [sn, sd, decide_true, decide_false, beqB, Bool.not_false, cond_false, cond_true, t1, t2, wa', wb, ok2, Option.bind_some]
        exact fin _ (by omega)
    · have t1 := tn.1 (by omega)
      by_cases sd : d < 0
      · have t2 := td.2 sd
        have e1 : Int.tdiv n (-(g : Int)) = -(p : Int) := by rw [Int.tdiv_neg, t1]
        have e2 : Int.tdiv d (-(g : Int)) = (q : Int) := by rw [Int.tdiv_neg, t2]; omega
        simp only [sn, sd, decide_true, decide_false, beqB, Bool.not_false, cond_false, cond_true, wg, dg, e1, e2, wa', wb, ok2, Option.bind_some]
        exact fin _ (by omega)
      · have t2 := td.1 (by omega)
        simp only [sn, sd, decide_false, beqB_self, Bool.not_true, cond_false, t1, t2, wa, wb, ok1, Option.bind_some]
        exact fin _ (by omega)
end Go.Sx.R
namespace Go.Sx.R
open Go Go.Sx
def l1 (m : List (List Int)) (r : Int) (cols : List Int) : Nat := (cols.map fun c => (at2 m r c).natAbs).sum
theorem dsum_le {m : List (List Int)} {r : Int} {D : Nat → Int} {X : Nat} : ∀ (cs : List Int) (j : Nat) (s : Int), (s = 1 ∨ s = -1) → (∀ i, (D i).natAbs ≤ X) → (dsum m r D cs j s).natAbs ≤ l1 m r cs * X
  | [], _, _, _, _ => by simp [dsum, l1]
  | c :: cs, j, s, hs, hD => by
    have ih := dsum_le (m := m) (r := r) (D := D) (X := X) cs (j + 1) (-s) (by rcases hs with rfl | rfl <;> simp) hD
    have hs1 : s.natAbs = 1 := by rcases hs with rfl | rfl <;> rfl
    have t : (s * at2 m r c * D j).natAbs ≤ (at2 m r c).natAbs * X := by
      rw [Int.natAbs_mul, Int.natAbs_mul, hs1, Nat.one_mul]
      exact Nat.mul_le_mul_left _ (hD j)
    have e : l1 m r (c :: cs) = (at2 m r c).natAbs + l1 m r cs := by simp [l1]
    simp only [dsum]
    rw [e, Nat.add_mul]
    exact Nat.le_trans (Int.natAbs_add_le _ _) (Nat.add_le_add t ih)
theorem l1_erase {m : List (List Int)} {r : Int} : ∀ (cols : List Int) (i : Nat), l1 m r (cols.eraseIdx i) ≤ l1 m r cols
  | [], _ => by simp [l1]
  | c :: cs, 0 => by simp [l1]
  | c :: cs, i + 1 => by
    have := l1_erase (m := m) (r := r) cs i
    simp only [l1, List.eraseIdx_cons_succ, List.map_cons, List.sum_cons] at *; omega
theorem detZ_le {m : List (List Int)} {X : Nat} : ∀ (rows cols : List Int), (∀ r ∈ rows, l1 m r cols ≤ X) → (detZ m rows cols).natAbs ≤ X ^ rows.length
  | [], _, _ => by simp [detZ]
  | r :: rows, cols, h => by
    have hD : ∀ i, (detZ m rows (cols.eraseIdx i)).natAbs ≤ X ^ rows.length := fun i => detZ_le rows (cols.eraseIdx i) fun r' hr' => Nat.le_trans (l1_erase cols i) (h r' (List.mem_cons_of_mem _ hr'))
    have := dsum_le (m := m) (r := r) cols 0 1 (.inl rfl) hD
    simp only [detZ, List.length_cons]
    refine Nat.le_trans this ?_
    rw [Nat.pow_succ, Nat.mul_comm]
    exact Nat.mul_le_mul_left _ (h r List.mem_cons_self)
def oth (v : Int) (e : W3) : Int := e.1 + e.2.1 - v
def tch (v : Int) (e : W3) : Bool := decide (e.1 = v ∨ e.2.1 = v)
theorem touch_sum (v : Int) : ∀ (ws : List W3), wAt ws v = ((ws.filter (tch v)).map (touch v)).sum
  | [] => rfl
  | e :: ws => by
    have ih := touch_sum v ws
    simp only [wAt] at *
    by_cases c : e.1 = v ∨ e.2.1 = v
    · rw [List.filter_cons_of_pos (by simp [tch, c])]; simp [ih]
    · rw [List.filter_cons_of_neg (by simp [tch, c])]; simp [ih, touch, c]
theorem wAt_le {ws : List W3} {m : Nat} (hs : Srt ws) (hin : InW m ws) (hm5 : m ≤ 5) (hW : ∀ e ∈ ws, 1 ≤ e.2.2 ∧ e.2.2 ≤ 200) (v : Int) : 0 ≤ wAt ws v ∧ wAt ws v ≤ 1000 := by
  rw [touch_sum]
  have hb := sum_bounds (touch v) 200 (ws.filter (tch v)) fun e he => touch_le hW v e (List.mem_filter.1 he).1
  have hn : ((ws.filter (tch v)).map (oth v)).Nodup := by
    rw [List.Nodup, List.pairwise_map]
    refine (List.Pairwise.filter _ hs).imp_of_mem fun {a b} ha hb hl => ?_
    have ta := (List.mem_filter.1 ha).2
    have tb := (List.mem_filter.1 hb).2
    have ia := hin a (List.mem_filter.1 ha).1
    have ib := hin b (List.mem_filter.1 hb).1
    simp only [tch, decide_eq_true_eq] at ta tb
    simp only [lex, Bool.or_eq_true, Bool.and_eq_true, decide_eq_true_eq] at hl
    simp only [oth]
    omega
  have hl := nodup_len (m := ints 5) hn fun x hx => by
    obtain ⟨e, he, rfl⟩ := List.mem_map.1 hx
    have te := (List.mem_filter.1 he).2
    have ie := hin e (List.mem_filter.1 he).1
    simp only [tch, decide_eq_true_eq] at te
    rw [mem_ints]; simp only [oth]; omega
  rw [len_ints, List.length_map] at hl
  omega
theorem lapF_le {ws : List W3} {m : Nat} (hs : Srt ws) (hin : InW m ws) (hm5 : m ≤ 5) (hW : ∀ e ∈ ws, 1 ≤ e.2.2 ∧ e.2.2 ≤ 200) (i j : Nat) : (lapF ws i j).natAbs ≤ if i = j then 1000 else 200 := by
  simp only [lapF]
  split
  · have := wAt_le hs hin hm5 hW (i : Int); omega
  · have := wbt_bd hW (i : Int) (j : Int); omega
theorem tab_at2 {L : List (List Int)} {m : Nat} {f : Nat → Nat → Int} (h : IsTab L m f) {i j : Nat} (hi : i < m) (hj : j < m) : at2 L (i : Int) (j : Int) = f i j := by
  obtain ⟨row, r1, r2, r3⟩ := h.2 i hi
  simp only [at2, getI_nat, r1, Option.getD_some, r3 j hj]
theorem tab_ent {L : List (List Int)} {m : Nat} {f : Nat → Nat → Int} (h : IsTab L m f) {rows cols : List Int} (hr : ∀ r ∈ rows, 0 ≤ r ∧ r < m) (hc : ∀ c ∈ cols, 0 ≤ c ∧ c < m) : Ent L rows cols := by
  intro r hrm
  obtain ⟨i, rfl⟩ : ∃ i : Nat, r = i := ⟨r.toNat, by have := hr r hrm; omega⟩
  obtain ⟨row, r1, r2, r3⟩ := h.2 i (by have := hr _ hrm; omega)
  refine ⟨row, by rw [getI_nat]; exact r1, fun c hcm => ?_⟩
  obtain ⟨j, rfl⟩ : ∃ j : Nat, c = j := ⟨c.toNat, by have := hc c hcm; omega⟩
  exact ⟨_, by rw [getI_nat]; exact r3 j (by have := hc _ hcm; omega)⟩
theorem l1_lap {ws : List W3} {m : Nat} {L : List (List Int)} (hs : Srt ws) (hin : InW m ws) (hm5 : m ≤ 5) (hW : ∀ e ∈ ws, 1 ≤ e.2.2 ∧ e.2.2 ≤ 200) (h : IsTab L m (lapF ws)) {r : Int} (hr : 0 ≤ r ∧ r < m) :
    ∀ (cols : List Int), cols.Nodup → (∀ c ∈ cols, 0 ≤ c ∧ c < m) → (r ∉ cols → l1 L r cols ≤ 200 * cols.length) ∧ l1 L r cols ≤ 800 + 200 * cols.length
  | [], _, _ => by simp [l1]
  | c :: cs, hn, hc => by
    obtain ⟨n1, n2⟩ := List.nodup_cons.1 hn
    obtain ⟨q1, q2⟩ := l1_lap hs hin hm5 hW h hr cs n2 fun c hcm => hc c (List.mem_cons_of_mem _ hcm)
    obtain ⟨i, rfl⟩ : ∃ i : Nat, r = i := ⟨r.toNat, by omega⟩
    have hcc := hc c List.mem_cons_self
    obtain ⟨j, rfl⟩ : ∃ j : Nat, c = j := ⟨c.toNat, by omega⟩
    have b := lapF_le hs hin hm5 hW i j
    have e : l1 L (i : Int) ((j : Int) :: cs) = (lapF ws i j).natAbs + l1 L (i : Int) cs := by
      simp only [l1, List.map_cons, List.sum_cons, tab_at2 h (show i < m by omega) (show j < m by omega)]
    rw [e]
    simp only [List.length_cons, List.mem_cons, not_or]
    by_cases ij : i = j
    · subst ij
      have := q1 n1
      simp only [if_true] at b
      exact ⟨fun hh => absurd rfl hh.1, by omega⟩
    · rw [if_neg ij] at b
      exact ⟨fun hh => by have := q1 hh.2; omega, by omega⟩
theorem det_lap {ws : List W3} {m : Nat} {L : List (List Int)} (hs : Srt ws) (hin : InW m ws) (hm5 : m ≤ 5) (hW : ∀ e ∈ ws, 1 ≤ e.2.2 ∧ e.2.2 ≤ 200) (h : IsTab L m (lapF ws)) {rows cols : List Int} (hr : ∀ r ∈ rows, 0 ≤ r ∧ r < m) (hc : ∀ c ∈ cols, 0 ≤ c ∧ c < m) (hn : cols.Nodup) : (detZ L rows cols).natAbs ≤ 1800 ^ rows.length := by
  refine detZ_le rows cols fun r hrm => ?_
  have hl : cols.length ≤ 5 := by
    have := nodup_len (m := ints m) hn fun c hcm => by rw [mem_ints]; exact hc c hcm
    rw [len_ints] at this; omega
  have := (l1_lap hs hin hm5 hW h (hr r hrm) cols hn hc).2
  omega
end Go.Sx.R
namespace Go.Sx.R
open Go Go.Sx
def GI {α : Type} (E : Nat) (g : Nat → Nat → α) (i j : Nat) (R : List (List α)) : Prop :=
  R.length = E ∧ ∀ a, a < E → R[a]? = some (if a < i then (List.range' 0 E).map (g a) else if a = i then (List.range' 0 j).map (g a) else [])
section
variable {α : Type} {E : Nat} {g : Nat → Nat → α} {i j : Nat} {R : List (List α)}
theorem GI.get (h : GI E g i j R) (hi : i < E) : R[i]? = some ((List.range' 0 j).map (g i)) := by
  rw [h.2 i hi, if_neg (Nat.lt_irrefl i), if_pos rfl]
theorem GI.step (h : GI E g i j R) (hi : i < E) : GI E g i (j + 1) (R.set i ((List.range' 0 j).map (g i) ++ [g i j])) := by
  refine ⟨by simpa using h.1, fun a ha => ?_⟩
  rw [List.getElem?_set]
  by_cases e : i = a
  · subst e
    rw [if_pos rfl, if_pos (by rw [h.1]; exact hi), if_neg (Nat.lt_irrefl i), if_pos rfl, List.range'_concat, List.map_append]
    simp
  · rw [if_neg e, h.2 a ha]
    by_cases e1 : a < i
    · rw [if_pos e1, if_pos e1]
    · rw [if_neg e1, if_neg e1, if_neg (fun e' => e e'.symm), if_neg (fun e' => e e'.symm)]
theorem GI.row (h : GI E g i E R) : GI E g (i + 1) 0 R := by
  refine ⟨h.1, fun a ha => ?_⟩
  rw [h.2 a ha]
  by_cases e1 : a < i
  · rw [if_pos e1, if_pos (by omega)]
  · rw [if_neg e1]
    by_cases e2 : a = i
    · rw [if_pos e2, if_pos (by omega)]
    · rw [if_neg e2, if_neg (by omega)]
      split <;> rfl
theorem GI.init : GI E g 0 0 (List.replicate E []) := by
  refine ⟨by simp, fun a ha => ?_⟩
  rw [List.getElem?_replicate, if_pos ha, if_neg (by omega)]
  split <;> rfl
theorem GI.done (h : GI E g E 0 R) : R = (List.range' 0 E).map fun a => (List.range' 0 E).map (g a) := by
  apply List.ext_getElem?; intro a
  by_cases ha : a < E
  · rw [h.2 a ha, if_pos ha, List.getElem?_map, List.getElem?_range' ha]; simp
  · rw [List.getElem?_eq_none (by have := h.1; omega), List.getElem?_eq_none (by simp; omega)]
end
theorem same_idx (a : Nat) : samePath (([] : List PS) ++ (PS.idx a :: ([] : List PS))) (([] : List PS) ++ (PS.idx a :: ([] : List PS))) = true := by
  simp [samePath]
structure Nk (n : TNet) (m E : Nat) (L : List (List Int)) (inn : List Int) : Prop where
  hn : Sm.sm B1 n
  ok : netok n = true
  hm : n.1 = m
  m1 : 1 ≤ m
  m5 : m ≤ 5
  he : n.2.1 = E
  e1 : 1 ≤ E
  em : E ≤ m
  sc : 1 ≤ n.2.2.1 ∧ n.2.2.1 ≤ 1000
  lp : e_impl_LaplacianOf (n, ()) = some L
  ls : e_spec_LaplacianOf (n, ()) = some L
  tab : IsTab L m (lapF n.2.2.2)
  ip : e_impl_inner (n, ()) = some inn
  is : e_spec_l06Inner (n, ()) = some inn
  inn : inn = rng n.2.1 (m - E)
  srt : Srt n.2.2.2
  inw : InW m n.2.2.2
  hw : ∀ e ∈ n.2.2.2, 1 ≤ e.2.2 ∧ e.2.2 ≤ 200
theorem e_Inner : e_spec_l06Inner = e_impl_inner := rfl
theorem nk_of (n : TNet) (hn : Sm.sm B1 n) (ok : netok n = true) : ∃ m E L inn, Nk n m E L inn := by
  obtain ⟨m, hm, hm1, hm5, hin, he1, he2⟩ := netok_facts ok
  obtain ⟨E, hE⟩ : ∃ E : Nat, n.2.1 = E := ⟨n.2.1.toNat, by omega⟩
  have hW := wiresW ok
  obtain ⟨L, h1, h2, h3⟩ := lap_both n m hn ok hm hm5 hin hW
  have hp := p_inner n m hm hm5 he1 he2
  have et : n.2.1.toNat = E := by omega
  rw [et] at hp
  have hh : hdrOk n = true := by revert ok; simp only [netok]; cases hdrOk n <;> simp
  simp only [hdrOk, Bool.and_eq_true, decide_eq_true_eq] at hh
  exact ⟨m, E, L, _, hn, ok, hm, hm1, hm5, hE, by omega, by omega, by omega, h1, h2, h3, hp, by rw [e_Inner]; exact hp, rfl, netok_srt ok, hin, hW⟩
section
variable {n : TNet} {m E : Nat} {L : List (List Int)} {inn : List Int}
theorem Nk.mem_inn (h : Nk n m E L inn) {c : Int} : c ∈ inn ↔ (E : Int) ≤ c ∧ c < m := by
  have h1 := h.inn; have h2 := h.he; have h3 := h.em
  subst h1
  simp only [rng, List.mem_map, List.mem_range]
  constructor
  · rintro ⟨k, hk, rfl⟩
    have : Int.ofNat k = (k : Int) := rfl
    omega
  · intro hc
    refine ⟨(c - E).toNat, by omega, ?_⟩
    have : Int.ofNat (c - E).toNat = ((c - E).toNat : Int) := rfl
    omega
theorem Nk.nd_inn (h : Nk n m E L inn) : inn.Nodup := by
  have h1 := h.inn
  subst h1
  rw [rng, List.Nodup, List.pairwise_map]
  refine List.nodup_range.imp fun {a b} hab hh => hab ?_
  have e1 : Int.ofNat a = (a : Int) := rfl
  have e2 : Int.ofNat b = (b : Int) := rfl
  omega
theorem Nk.len_inn (h : Nk n m E L inn) : inn.length = m - E := by have h1 := h.inn; subst h1; exact rng_len
theorem Nk.with (h : Nk n m E L inn) {i : Nat} (hi : i < E) : (∀ c ∈ (i : Int) :: inn, 0 ≤ c ∧ c < m) ∧ ((i : Int) :: inn).Nodup ∧ ((i : Int) :: inn).length ≤ 5 := by
  have hem := h.em; have hm5 := h.m5
  refine ⟨fun c hc => ?_, List.nodup_cons.2 ⟨fun hc => ?_, h.nd_inn⟩, ?_⟩
  · rcases List.mem_cons.1 hc with rfl | hc
    · omega
    · have := h.mem_inn.1 hc; omega
  · have := h.mem_inn.1 hc; omega
  · rw [List.length_cons, h.len_inn]; omega
theorem Nk.inn_in (h : Nk n m E L inn) : ∀ c ∈ inn, 0 ≤ c ∧ c < m := fun c hc => by have := h.mem_inn.1 hc; omega
theorem pow1800 {k : Nat} (h : k ≤ 5) : 1800 ^ k ≤ 18895680000000000 := Nat.le_trans (Nat.pow_le_pow_right (by omega) h) (by decide)
theorem pow1800' {k : Nat} (h : k ≤ 4) : 1800 ^ k ≤ 10497600000000 := Nat.le_trans (Nat.pow_le_pow_right (by omega) h) (by decide)
theorem Nk.top_le (h : Nk n m E L inn) {i j : Nat} (hi : i < E) (hj : j < E) : (detZ L ((i : Int) :: inn) ((j : Int) :: inn)).natAbs ≤ 18895680000000000 :=
  Nat.le_trans (det_lap h.srt h.inw h.m5 h.hw h.tab (h.with hi).1 (h.with hj).1 (h.with hj).2.1) (pow1800 (h.with hi).2.2)
theorem Nk.down_le (h : Nk n m E L inn) : (detZ L inn inn).natAbs ≤ 10497600000000 :=
  Nat.le_trans (det_lap h.srt h.inw h.m5 h.hw h.tab h.inn_in h.inn_in h.nd_inn) (pow1800' (by have := h.len_inn; have := h.e1; have := h.m5; omega))
theorem Nk.top (h : Nk n m E L inn) {i j : Nat} (hi : i < E) (hj : j < E) :
    e_impl_det (L, (i : Int) :: inn, (j : Int) :: inn, ()) = some (detZ L ((i : Int) :: inn) ((j : Int) :: inn)) ∧ e_spec_l04Det (L, (i : Int) :: inn, (j : Int) :: inn, ()) = some (detZ L ((i : Int) :: inn) ((j : Int) :: inn)) := by
  have hE := tab_ent h.tab (h.with hi).1 (h.with hj).1
  have b := h.top_le hi hj
  have w : wr (detZ L ((i : Int) :: inn) ((j : Int) :: inn)) = detZ L ((i : Int) :: inn) ((j : Int) :: inn) := wr_id (by omega) (by omega)
  have li := (h.with hi).2.2
  have lj := (h.with hj).2.2
  exact ⟨by rw [p_det0 L _ _ (by omega) (by omega) hE, w], by rw [s_det0 L _ _ (by omega) (by omega) hE, w]⟩
theorem Nk.down (h : Nk n m E L inn) : e_impl_det (L, inn, inn, ()) = some (detZ L inn inn) ∧ e_spec_l04Det (L, inn, inn, ()) = some (detZ L inn inn) := by
  have hE := tab_ent h.tab h.inn_in h.inn_in
  have b := h.down_le
  have w : wr (detZ L inn inn) = detZ L inn inn := wr_id (by omega) (by omega)
  have l := h.len_inn
  have hm5 := h.m5
  exact ⟨by rw [p_det0 L _ _ (by omega) (by omega) hE, w], by rw [s_det0 L _ _ (by omega) (by omega) hE, w]⟩
theorem Nk.sTop (h : Nk n m E L inn) {i j : Nat} (hi : i < E) (hj : j < E) : e_spec_l06Top (n, (i : Int), (j : Int), ()) = some (detZ L ((i : Int) :: inn) ((j : Int) :: inn)) := by
  have l := h.len_inn
  have hm5 := h.m5
  have b : ∀ k : Nat, Nat.ble (List.length ((k : Int) :: ([] : List Int)) + inn.length) 17179869184 = true := fun k => ble_true (by simp; omega)
  simp only [e_spec_l06Top, r_spec_l06Top, h.is, h.ls, Option.bind_some, b, cond_true, List.cons_append, List.nil_append, (h.top hi hj).2]
theorem Nk.sDown (h : Nk n m E L inn) : e_spec_l06Down (n, ()) = some (detZ L inn inn) := by
  simp only [e_spec_l06Down, r_spec_l06Down, h.is, h.ls, Option.bind_some, h.down.2]
def dOf (n : TNet) (L : List (List Int)) (inn : List Int) : Int := n.2.2.1 * detZ L inn inn
theorem Nk.d_le (h : Nk n m E L inn) : (dOf n L inn).natAbs ≤ 10497600000000000 := by
  have b := h.down_le
  have s := h.sc
  rw [dOf, Int.natAbs_mul]
  have : n.2.2.1.natAbs ≤ 1000 := by omega
  exact Nat.le_trans (Nat.mul_le_mul this b) (by decide)
theorem Nk.resp (h : Nk n m E L inn) : e_impl_response (n, ()) = some ((List.range' 0 E).map fun (i : Nat) => (List.range' 0 E).map fun (j : Nat) => detZ L ((i : Int) :: inn) ((j : Int) :: inn), dOf n L inn) := by
  have l := h.len_inn
  have hm5 := h.m5
  have hem := h.em
  have hd : (List.range E).length = E := by simp
  have hEt : n.2.1.toNat = E := by have := h.he; omega
  have d0 : decide ((0 : Int) ≤ n.2.1) = true := by have := h.he; rw [decide_eq_true_eq]; omega
  have hEB : E ≤ 9223372036854775807 := by omega
  have bd := h.d_le
  simp only [e_impl_response, r_impl_response, h.lp, h.ip, Option.bind_some, d0, cond_true, hEt, ble_true (show E ≤ 17179869184 by omega), List.length_replicate]
  refine iter_rule (R := List (List Int) × Int) (fun o => o = some ((List.range' 0 E).map fun (i : Nat) => (List.range' 0 E).map fun (j : Nat) => detZ L ((i : Int) :: inn) ((j : Int) :: inn), dOf n L inn)) (List.range E) (fun (R : List (List Int)) i => (n, L, inn, R, (E : Int), i, ()))
    (fun i R => GI E (fun i j => detZ L ((i : Int) :: inn) ((j : Int) :: inn)) i 0 R) (fun R i x kc hp hx hi hk => ?_) (fun R kc hp => ?_) (by have := N0_big; omega) _ GI.init
  · rw [hd] at hi
    have d1 : decide ((i : Int) < (E : Int)) = true := by rw [decide_eq_true_eq]; omega
    have hlR : ((R.length : Nat) : Int) = (E : Int) := by rw [hp.1]
    simp only [r_impl_response_L0, d1, cond_true, hlR]
    refine iter_rule (R := List (List Int) × Int) (fun o => o = some ((List.range' 0 E).map fun (i : Nat) => (List.range' 0 E).map fun (j : Nat) => detZ L ((i : Int) :: inn) ((j : Int) :: inn), dOf n L inn)) (List.range E) (fun (R : List (List Int)) j => (n, L, inn, R, (i : Int), (E : Int), (i : Int), (E : Int), j, ()))
      (fun j R => GI E (fun i j => detZ L ((i : Int) :: inn) ((j : Int) :: inn)) i j R) (fun R j y kc2 hq hy hj hk2 => ?_) (fun R kc2 hq => ?_) (by have := N0_big; omega) R hp
    · rw [hd] at hj
      have d2 : decide ((j : Int) < (E : Int)) = true := by rw [decide_eq_true_eq]; omega
      have g := hq.get hi
      have b : ∀ k : Nat, Nat.ble (List.length ((k : Int) :: ([] : List Int)) + inn.length) 17179869184 = true := fun k => ble_true (by simp; omega)
      have b2 : ∀ v : Int, Nat.ble (((List.range' 0 j).map fun (j : Nat) => detZ L ((i : Int) :: inn) ((j : Int) :: inn)).length + List.length (v :: ([] : List Int))) 17179869184 = true := fun v => ble_true (by simp; omega)
      simp only [r_impl_response_L2, d2, cond_true, getI_nat, g, Option.bind_some, b, List.cons_append, List.nil_append, (h.top hi hj).1, b2, Int.toNat_natCast, wr_succ hj hEB]
      have hsp := same_idx i
      simp only [List.nil_append] at hsp
      rw [hsp, cond_true]
      exact hk2 _ (hq.step hi)
    · have d2 : decide ((((List.range E).length : Nat) : Int) < (E : Int)) = false := by rw [decide_eq_false_iff_not, hd]; omega
      rw [hd] at hq
      simp only [r_impl_response_L2, d2, cond_false, wr_succ hi hEB]
      exact hk _ hq.row
  · have d2 : decide ((((List.range E).length : Nat) : Int) < (E : Int)) = false := by rw [decide_eq_false_iff_not, hd]; omega
    rw [hd] at hp
    have w : wr (n.2.2.1 * detZ L inn inn) = dOf n L inn := by
      show wr (dOf n L inn) = _
      exact wr_id (by omega) (by omega)
    simp only [r_impl_response_L0, d2, cond_false, h.down.1, Option.bind_some, w, hp.done]
end
end Go.Sx.R
namespace Go.Sx.R
open Go Go.Sx
structure WiresOf (f : Nat → Nat → Int) (m : Nat) (p : Nat → Nat → Prop) (l : List W3) : Prop where
  srt : Srt l
  mem : ∀ x, x ∈ l ↔ ∃ a b : Nat, p a b ∧ a < b ∧ b < m ∧ f a b ≠ 0 ∧ x = ((a : Int), (b : Int), f a b)
theorem WiresOf.len {f : Nat → Nat → Int} {m : Nat} {p : Nat → Nat → Prop} {l : List W3} (h : WiresOf f m p l) : l.length ≤ m * m := by
  have key : ∀ l : List W3, l.Nodup → (∀ x ∈ l, ∃ a b : Nat, a < m ∧ b < m ∧ x = ((a : Int), (b : Int), f a b)) → l.length ≤ m * m := by
    intro l hn hm
    have := nodup_len (m := (List.range m).flatMap fun a => (List.range m).map fun b => (((a : Nat) : Int), ((b : Nat) : Int), f a b)) hn fun x hx => by
      obtain ⟨a, b, ha, hb, rfl⟩ := hm x hx
      rw [List.mem_flatMap]
      exact ⟨a, List.mem_range.2 ha, List.mem_map.2 ⟨b, List.mem_range.2 hb, rfl⟩⟩
    refine Nat.le_trans this ?_
    have : ∀ k : Nat, ((List.range k).flatMap fun a => (List.range m).map fun b => (((a : Nat) : Int), ((b : Nat) : Int), f a b)).length = k * m := by
      intro k
      induction k with
      | zero => simp
      | succ k ih => rw [List.range_succ, List.flatMap_append, List.length_append, ih]; simp [Nat.add_mul]
    rw [this]; exact Nat.le_refl _
  refine key l ?_ fun x hx => ?_
  · refine List.Pairwise.imp (fun {a b} hab e => ?_) h.srt
    subst e; rw [lex_irr] at hab; cases hab
  · obtain ⟨a, b, _, h1, h2, _, e⟩ := (h.mem x).1 hx
    exact ⟨a, b, by omega, h2, e⟩
end Go.Sx.R
namespace Go.Sx.R
open Go Go.Sx
theorem s_Drop (ws : List W3) (hws : Sm.sm B1 ws) : e_spec_l03Drop (ws, ()) = some (ws.filter fun x => !decide (x.2.2 = 0)) := by
  have hlen : ws.length ≤ 1073741824 := hws.1
  simp only [e_spec_l03Drop, r_spec_l03Drop]
  have m := iter_fold (R := List W3) (body := r_spec_l03Drop_L0 N0) ws (fun (q : List W3) i => (q, ws, (ws.length : Int), i, ())) (fun i q => q = (ws.take i).filter fun x => !decide (x.2.2 = 0)) (fun q _ x => if x.2.2 = 0 then q else q ++ [x])
    (fun q i x kc ke hq hx hi => by
      have hql : q.length ≤ i := by
        rw [hq]; refine Nat.le_trans (List.length_filter_le _ _) ?_; simp; omega
      have htake : ws.take (i + 1) = ws.take i ++ [x] := by rw [List.take_add_one, hx]; rfl
      refine ⟨?_, ?_⟩
      · simp only [r_spec_l03Drop_L0, lt_len, hi, decide_true, cond_true, getI_nat, hx, Option.bind_some, wr_len hi hws, List.length_cons, List.length_nil, Nat.zero_add, ble_true (show q.length + 1 ≤ 17179869184 by omega)]
        by_cases c : x.2.2 = 0
        · simp [c]
        · simp [c]
      · rw [htake, List.filter_append, ← hq]
        by_cases c : x.2.2 = 0
        · simp [c]
        · simp [c])
    (fun q kc ke _ => by simp only [r_spec_l03Drop_L0, not_lt_self, cond_false]) (N := N0) (len_lt hws N0_gt) [] (by simp) (fun s1 => some s1.1)
  have e := m.1
  rw [m.2, List.take_length] at e
  exact e
theorem sm_z0 : Sm.sm B1 (0 : Int) := ⟨by omega, by omega⟩
end Go.Sx.R
namespace Go.Sx.R
open Go Go.Sx
section
variable {n : TNet} {m E : Nat} {L : List (List Int)} {inn : List Int}
noncomputable def rtF (n : TNet) (L : List (List Int)) (inn : List Int) (i j : Nat) : Int × Int := (e_spec_RatioOf (detZ L ((i : Int) :: inn) ((j : Int) :: inn), dOf n L inn, ())).getD (0, 0)
theorem Nk.rt (h : Nk n m E L inn) {i j : Nat} (hi : i < E) (hj : j < E) : e_impl_RatioOf (detZ L ((i : Int) :: inn) ((j : Int) :: inn), dOf n L inn, ()) = some (rtF n L inn i j) ∧
    e_spec_RatioOf (detZ L ((i : Int) :: inn) ((j : Int) :: inn), dOf n L inn, ()) = some (rtF n L inn i j) ∧ Sm.sm B1 (rtF n L inn i j) := by
  have b1 := h.top_le hi hj
  have b2 := h.d_le
  obtain ⟨r, h1, h2, h3⟩ := ratio_all (detZ L ((i : Int) :: inn) ((j : Int) :: inn)) (dOf n L inn) (by omega) (by omega) (by omega) (by omega)
  have e : rtF n L inn i j = r := by simp only [rtF, h2, Option.getD_some]
  rw [e]; exact ⟨h1, h2, h3⟩
noncomputable def respT (n : TNet) (L : List (List Int)) (inn : List Int) (E : Nat) : List (List (Int × Int)) := (List.range' 0 E).map fun (i : Nat) => (List.range' 0 E).map fun (j : Nat) => rtF n L inn i j
theorem range'_get0 {E i : Nat} (hi : i < E) : (List.range' 0 E)[i]? = some i := by rw [List.getElem?_range' hi]; simp
theorem Nk.pResp (h : Nk n m E L inn) : e_impl_ResponseOf (n, ()) = some (respT n L inn E, true) := by
  have hm5 := h.m5
  have hem := h.em
  have hd : (List.range E).length = E := by simp
  have hEB : E ≤ 9223372036854775807 := by omega
  have hRl : (((List.range' 0 E).map fun (i : Nat) => (List.range' 0 E).map fun (j : Nat) => detZ L ((i : Int) :: inn) ((j : Int) :: inn)).length) = E := by simp
  simp only [e_impl_ResponseOf, r_impl_ResponseOf, p_NetOk n h.hn, h.ok, Option.bind_some, Bool.not_true, cond_false, h.resp, hRl, Int.toNat_natCast, ble_true (show E ≤ 17179869184 by omega), cond_true]
  generalize hD : ((List.range' 0 E).map fun (i : Nat) => (List.range' 0 E).map fun (j : Nat) => detZ L ((i : Int) :: inn) ((j : Int) :: inn)) = Dm
  have hrow : ∀ i, i < E → Dm[i]? = some ((List.range' 0 E).map fun (j : Nat) => detZ L ((i : Int) :: inn) ((j : Int) :: inn)) := fun i hi => by
    rw [← hD, List.getElem?_map, range'_get0 hi]; rfl
  refine iter_rule (R := List (List (Int × Int)) × Bool) (fun o => o = some (respT n L inn E, true)) (List.range E) (fun (R : List (List (Int × Int))) i => (Dm, dOf n L inn, R, (E : Int), i, ()))
    (fun i R => GI E (rtF n L inn) i 0 R) (fun R i x kc hp hx hi hk => ?_) (fun R kc hp => ?_) (by have := N0_big; omega) _ GI.init
  · rw [hd] at hi
    have d1 : decide ((i : Int) < (E : Int)) = true := by rw [decide_eq_true_eq]; omega
    have hl : (((List.range' 0 E).map fun (j : Nat) => detZ L ((i : Int) :: inn) ((j : Int) :: inn)).length) = E := by simp
    simp only [r_impl_ResponseOf_L0, d1, cond_true, getI_nat, hrow i hi, Option.bind_some, hl]
    generalize hr : ((List.range' 0 E).map fun (j : Nat) => detZ L ((i : Int) :: inn) ((j : Int) :: inn)) = row
    have hre : ∀ j, j < E → row[j]? = some (detZ L ((i : Int) :: inn) ((j : Int) :: inn)) := fun j hj => by
      rw [← hr, List.getElem?_map, range'_get0 hj]; rfl
    refine iter_rule (R := List (List (Int × Int)) × Bool) (fun o => o = some (respT n L inn E, true)) (List.range E) (fun (R : List (List (Int × Int))) j => (Dm, dOf n L inn, R, (i : Int), (E : Int), (i : Int), row, (E : Int), j, ()))
      (fun j R => GI E (rtF n L inn) i j R) (fun R j y kc2 hq hy hj hk2 => ?_) (fun R kc2 hq => ?_) (by have := N0_big; omega) R hp
    · rw [hd] at hj
      have d2 : decide ((j : Int) < (E : Int)) = true := by rw [decide_eq_true_eq]; omega
      have g := hq.get hi
      have b2 : ∀ v : Int × Int, Nat.ble (((List.range' 0 j).map (rtF n L inn i)).length + List.length (v :: ([] : List (Int × Int)))) 17179869184 = true := fun v => ble_true (by simp; omega)
      simp only [r_impl_ResponseOf_L2, d2, cond_true, getI_nat, hre j hj, g, Option.bind_some, (h.rt hi hj).1, b2, Int.toNat_natCast, wr_succ hj hEB, same_idx i]
      exact hk2 _ (hq.step hi)
    · have d2 : decide ((((List.range E).length : Nat) : Int) < (E : Int)) = false := by rw [decide_eq_false_iff_not, hd]; omega
      rw [hd] at hq
      simp only [r_impl_ResponseOf_L2, d2, cond_false, wr_succ hi hEB]
      exact hk _ hq.row
  · have d2 : decide ((((List.range E).length : Nat) : Int) < (E : Int)) = false := by rw [decide_eq_false_iff_not, hd]; omega
    rw [hd] at hp
    simp only [r_impl_ResponseOf_L0, d2, cond_false, hp.done]
    rfl
theorem Nk.sResp (h : Nk n m E L inn) : e_spec_ResponseOf (n, ()) = some (respT n L inn E, true) := by
  have hm5 := h.m5
  have hem := h.em
  have he := h.he
  have hd : (List.range E).length = E := by simp
  have hEB : E ≤ 9223372036854775807 := by omega
  have bd := h.d_le
  have w : wr (n.2.2.1 * detZ L inn inn) = dOf n L inn := by
    show wr (dOf n L inn) = _
    exact wr_id (by omega) (by omega)
  simp only [e_spec_ResponseOf, r_spec_ResponseOf, s_NetOk n h.hn, h.ok, Option.bind_some, Bool.not_true, cond_false, h.sDown, w]
  have a := iter_fold (R := List (List (Int × Int)) × Bool) (body := r_spec_ResponseOf_L0 e_spec_NetOk e_spec_l06Down e_spec_l06Top e_spec_RatioOf N0) (List.range E) (fun (st : List (List (Int × Int))) i => (n, dOf n L inn, st, i, ())) (fun i st => st.length = i) (fun st i _ => st ++ [(List.range' 0 E).map (rtF n L inn i)])
    (fun st i x kc ke hs hx hi => by
      rw [hd] at hi
      refine ⟨?_, by simp [hs]⟩
      have d1 : decide ((i : Int) < n.2.1) = true := by rw [decide_eq_true_eq]; omega
      have b := iter_fold (R := List (List (Int × Int)) × Bool) (body := r_spec_ResponseOf_L2 e_spec_NetOk e_spec_l06Down e_spec_l06Top e_spec_RatioOf N0) (List.range E) (fun (row : List (Int × Int)) j => (n, dOf n L inn, st, (i : Int), row, j, ())) (fun j row => row.length = j) (fun row j _ => row ++ [rtF n L inn i j])
        (fun row j y kc ke hl hy hj => by
          rw [hd] at hj
          refine ⟨?_, by simp [hl]⟩
          have d2 : decide ((j : Int) < n.2.1) = true := by rw [decide_eq_true_eq]; omega
          have bl : ∀ v : Int × Int, Nat.ble (row.length + List.length (v :: ([] : List (Int × Int)))) 17179869184 = true := fun v => ble_true (by simp; omega)
          simp only [r_spec_ResponseOf_L2, d2, cond_true, h.sTop hi hj, (h.rt hi hj).2.1, Option.bind_some, bl, wr_succ hj hEB])
        (fun row kc ke _ => by
          have d2 : decide ((((List.range E).length : Nat) : Int) < n.2.1) = false := by rw [decide_eq_false_iff_not, hd]; omega
          simp only [r_spec_ResponseOf_L2, d2, cond_false]) (N := N0) (by have := N0_big; omega) [] rfl
      have bl : Nat.ble (st.length + List.length (((List.range' 0 E).map (rtF n L inn i)) :: ([] : List (List (Int × Int))))) 17179869184 = true := ble_true (by simp; omega)
      simp only [r_spec_ResponseOf_L0, d1, cond_true]
      rw [(b _).1]
      simp only [foldI_ixmap (rtF n L inn i), List.nil_append, hd, bl, cond_true, wr_succ hi hEB])
    (fun st kc ke _ => by
      have d2 : decide ((((List.range E).length : Nat) : Int) < n.2.1) = false := by rw [decide_eq_false_iff_not, hd]; omega
      simp only [r_spec_ResponseOf_L0, d2, cond_false]) (N := N0) (by have := N0_big; omega) [] rfl (fun s3 => some (s3.2.2.1, true))
  rw [a.1]
  simp only [foldI_ixmap (fun i => (List.range' 0 E).map (rtF n L inn i)), List.nil_append, hd]
  rfl
theorem Nk.sm_resp (h : Nk n m E L inn) : Sm.sm B1 (respT n L inn E) := by
  have hm5 := h.m5
  have hem := h.em
  have h5 : E ≤ 1073741824 := by omega
  refine ⟨by simpa [respT] using h5, fun row hr => ?_⟩
  obtain ⟨i, hi, rfl⟩ := List.mem_map.1 hr
  refine ⟨by simpa using h5, fun y hy => ?_⟩
  obtain ⟨j, hj, rfl⟩ := List.mem_map.1 hy
  rw [List.mem_range'_1] at hi hj
  exact (h.rt (by omega) (by omega)).2.2
end
theorem resp_both (n : TNet) (hn : Sm.sm B1 n) : ∃ q : List (List (Int × Int)) × Bool, e_impl_ResponseOf (n, ()) = some q ∧ e_spec_ResponseOf (n, ()) = some q ∧ Sm.sm B1 q.1 ∧ q.1.length ≤ 5 ∧ ∀ x ∈ q.1, x.length ≤ 5 := by
  cases hok : netok n with
  | false =>
    refine ⟨([], false), ?_, ?_, by simp [sm_list], by simp, by simp⟩
    · simp only [e_impl_ResponseOf, r_impl_ResponseOf, p_NetOk n hn, hok, Option.bind_some, Bool.not_false, cond_true]
    · simp only [e_spec_ResponseOf, r_spec_ResponseOf, s_NetOk n hn, hok, Option.bind_some, Bool.not_false, cond_true]
  | true =>
    obtain ⟨m, E, L, inn, h⟩ := nk_of n hn hok
    have h5 : E ≤ 5 := by have := h.em; have := h.m5; omega
    refine ⟨_, h.pResp, h.sResp, h.sm_resp, by simpa [respT] using h5, fun x hx => ?_⟩
    obtain ⟨i, _, rfl⟩ := List.mem_map.1 hx
    simpa using h5
end Go.Sx.R
namespace Go.Sx.R
open Go Go.Sx
theorem detZ1 (M : List (List Int)) (r c : Int) : detZ M [r] [c] = at2 M r c := by simp [detZ, dsum]
theorem detZ2 (M : List (List Int)) (r s c d : Int) : detZ M [r, s] [c, d] = at2 M r c * at2 M s d - at2 M r d * at2 M s c := by
  simp [detZ, dsum, List.eraseIdx]; grind
theorem detZ3 (M : List (List Int)) (r s t c d e : Int) : detZ M [r, s, t] [c, d, e] = at2 M r c * (at2 M s d * at2 M t e - at2 M s e * at2 M t d) - at2 M r d * (at2 M s c * at2 M t e - at2 M s e * at2 M t c) + at2 M r e * (at2 M s c * at2 M t d - at2 M s d * at2 M t c) := by
  simp [detZ, dsum, List.eraseIdx]; grind
section
variable {n : TNet} {m E : Nat} {L : List (List Int)} {inn : List Int}
end
end Go.Sx.R
namespace Go.Sx.R
open Go Go.Sx
theorem detZ4 (M : List (List Int)) (r s t u c d e g : Int) : detZ M [r, s, t, u] [c, d, e, g] =
    at2 M r c * (at2 M s d * (at2 M t e * at2 M u g - at2 M t g * at2 M u e) - at2 M s e * (at2 M t d * at2 M u g - at2 M t g * at2 M u d) + at2 M s g * (at2 M t d * at2 M u e - at2 M t e * at2 M u d))
    - at2 M r d * (at2 M s c * (at2 M t e * at2 M u g - at2 M t g * at2 M u e) - at2 M s e * (at2 M t c * at2 M u g - at2 M t g * at2 M u c) + at2 M s g * (at2 M t c * at2 M u e - at2 M t e * at2 M u c))
    + at2 M r e * (at2 M s c * (at2 M t d * at2 M u g - at2 M t g * at2 M u d) - at2 M s d * (at2 M t c * at2 M u g - at2 M t g * at2 M u c) + at2 M s g * (at2 M t c * at2 M u d - at2 M t d * at2 M u c))
    - at2 M r g * (at2 M s c * (at2 M t d * at2 M u e - at2 M t e * at2 M u d) - at2 M s d * (at2 M t c * at2 M u e - at2 M t e * at2 M u c) + at2 M s e * (at2 M t c * at2 M u d - at2 M t d * at2 M u c)) := by
  simp only [detZ, dsum, List.eraseIdx_cons_zero, List.eraseIdx_cons_succ, List.eraseIdx_nil]
  grind
theorem detZ_permP {M : List (List Int)} {l l' : List Int} (h : l.Perm l') : ∀ pre : List Int, (pre ++ l).length ≤ 4 → detZ M (pre ++ l) (pre ++ l) = detZ M (pre ++ l') (pre ++ l') := by
  induction h with
  | nil => intro pre _; rfl
  | cons x _ ih =>
    intro pre hl
    have := ih (pre ++ [x]) (by simpa using hl)
    simpa using this
  | swap x y l =>
    intro pre hl
    simp only [List.length_append, List.length_cons] at hl
    match pre, l, hl with
    | [], [], _ => simp only [List.nil_append, detZ2] <;> grind
    | [], [a], _ => simp only [List.nil_append, detZ3] <;> grind
    | [], [a, b], _ => simp only [List.nil_append, detZ4] <;> grind
    | [p], [], _ => simp only [List.cons_append, List.nil_append, detZ3] <;> grind
    | [p], [a], _ => simp only [List.cons_append, List.nil_append, detZ4] <;> grind
    | [p, q], [], _ => simp only [List.cons_append, List.nil_append, detZ4] <;> grind
    | [], _ :: _ :: _ :: _, hl => simp at hl <;> omega
    | [_], _ :: _ :: _, hl => simp at hl <;> omega
    | [_, _], _ :: _, hl => simp at hl <;> omega
    | _ :: _ :: _ :: _, _, hl => simp at hl <;> omega
  | trans h1 _ ih1 ih2 =>
    intro pre hl
    rw [ih1 pre hl, ih2 pre (by rw [List.length_append, ← h1.length_eq, ← List.length_append]; exact hl)]
theorem detZ_perm {M : List (List Int)} {l l' : List Int} (h : l.Perm l') (hl : l.length ≤ 4) : detZ M l l = detZ M l' l' := detZ_permP h [] hl
structure LapZ (M : List (List Int)) (V : List Int) : Prop where
  sym : ∀ x ∈ V, ∀ y ∈ V, at2 M x y = at2 M y x
  off : ∀ x ∈ V, ∀ y ∈ V, x ≠ y → at2 M x y ≤ 0
  sum : ∀ x ∈ V, (V.map (at2 M x)).sum = 0
  nd : V.Nodup
theorem perm_sum {l l' : List Int} (h : l.Perm l') : l.sum = l'.sum := by
  induction h with
  | nil => rfl
  | cons x _ ih => simp only [List.sum_cons, ih]
  | swap x y l => simp only [List.sum_cons]; omega
  | trans _ _ h1 h2 => rw [h1, h2]
theorem LapZ.perm {M : List (List Int)} {V V' : List Int} (h : LapZ M V) (hp : V.Perm V') : LapZ M V' :=
  ⟨fun x hx y hy => h.sym x (hp.mem_iff.2 hx) y (hp.mem_iff.2 hy), fun x hx y hy => h.off x (hp.mem_iff.2 hx) y (hp.mem_iff.2 hy),
    fun x hx => by rw [← perm_sum (hp.map (at2 M x))]; exact h.sum x (hp.mem_iff.2 hx), hp.nodup_iff.1 h.nd⟩
theorem ground_id (ab ac ad ae bc bd be cd ce de : Int) :
    (ab + bc + bd + be) * ((ac + bc + cd + ce) * ((ad + bd + cd + de) * (ae + be + ce + de) - (-de) * (-de)) - (-cd) * ((-cd) * (ae + be + ce + de) - (-de) * (-ce)) + (-ce) * ((-cd) * (-de) - (ad + bd + cd + de) * (-ce)))
    - (-bc) * ((-bc) * ((ad + bd + cd + de) * (ae + be + ce + de) - (-de) * (-de)) - (-cd) * ((-bd) * (ae + be + ce + de) - (-de) * (-be)) + (-ce) * ((-bd) * (-de) - (ad + bd + cd + de) * (-be)))
    + (-bd) * ((-bc) * ((-cd) * (ae + be + ce + de) - (-de) * (-ce)) - (ac + bc + cd + ce) * ((-bd) * (ae + be + ce + de) - (-de) * (-be)) + (-ce) * ((-bd) * (-ce) - (-cd) * (-be)))
    - (-be) * ((-bc) * ((-cd) * (-de) - (ad + bd + cd + de) * (-ce)) - (ac + bc + cd + ce) * ((-bd) * (-de) - (ad + bd + cd + de) * (-be)) + (-cd) * ((-bd) * (-ce) - (-cd) * (-be))) =
    (ab + ac + ad + ae) * ((ac + bc + cd + ce) * ((ad + bd + cd + de) * (ae + be + ce + de) - (-de) * (-de)) - (-cd) * ((-cd) * (ae + be + ce + de) - (-de) * (-ce)) + (-ce) * ((-cd) * (-de) - (ad + bd + cd + de) * (-ce)))
    - (-ac) * ((-ac) * ((ad + bd + cd + de) * (ae + be + ce + de) - (-de) * (-de)) - (-cd) * ((-ad) * (ae + be + ce + de) - (-de) * (-ae)) + (-ce) * ((-ad) * (-de) - (ad + bd + cd + de) * (-ae)))
    + (-ad) * ((-ac) * ((-cd) * (ae + be + ce + de) - (-de) * (-ce)) - (ac + bc + cd + ce) * ((-ad) * (ae + be + ce + de) - (-de) * (-ae)) + (-ce) * ((-ad) * (-ce) - (-cd) * (-ae)))
    - (-ae) * ((-ac) * ((-cd) * (-de) - (ad + bd + cd + de) * (-ce)) - (ac + bc + cd + ce) * ((-ad) * (-de) - (ad + bd + cd + de) * (-ae)) + (-cd) * ((-ad) * (-ce) - (-cd) * (-ae))) := by
  grind
theorem LapZ.five {M : List (List Int)} {a b c d e : Int} (h : LapZ M [a, b, c, d, e]) : ∃ ab ac ad ae bc bd be cd ce de : Int, 0 ≤ ab ∧ 0 ≤ ac ∧ 0 ≤ ad ∧ 0 ≤ ae ∧ 0 ≤ bc ∧ 0 ≤ bd ∧ 0 ≤ be ∧ 0 ≤ cd ∧ 0 ≤ ce ∧ 0 ≤ de ∧
    at2 M a b = -ab ∧ at2 M b a = -ab ∧ at2 M a c = -ac ∧ at2 M c a = -ac ∧ at2 M a d = -ad ∧ at2 M d a = -ad ∧ at2 M a e = -ae ∧ at2 M e a = -ae ∧ at2 M b c = -bc ∧ at2 M c b = -bc ∧ at2 M b d = -bd ∧ at2 M d b = -bd ∧ at2 M b e = -be ∧ at2 M e b = -be ∧
    at2 M c d = -cd ∧ at2 M d c = -cd ∧ at2 M c e = -ce ∧ at2 M e c = -ce ∧ at2 M d e = -de ∧ at2 M e d = -de ∧
    at2 M a a = ab + ac + ad + ae ∧ at2 M b b = ab + bc + bd + be ∧ at2 M c c = ac + bc + cd + ce ∧ at2 M d d = ad + bd + cd + de ∧ at2 M e e = ae + be + ce + de := by
  have hn := h.nd
  simp only [List.nodup_cons, List.mem_cons, List.not_mem_nil, or_false, not_or, List.nodup_nil, and_true, not_false_eq_true] at hn
  obtain ⟨⟨n1, n2, n3, n4⟩, ⟨n5, n6, n7⟩, ⟨n8, n9⟩, n10⟩ := hn
  have sa := h.sum a (by simp); have sb := h.sum b (by simp); have sc := h.sum c (by simp); have sd := h.sum d (by simp); have se := h.sum e (by simp)
  simp only [List.map_cons, List.map_nil, List.sum_cons, List.sum_nil] at sa sb sc sd se
  have y1 := h.sym b (by simp) a (by simp); have y2 := h.sym c (by simp) a (by simp); have y3 := h.sym d (by simp) a (by simp); have y4 := h.sym e (by simp) a (by simp)
  have y5 := h.sym c (by simp) b (by simp); have y6 := h.sym d (by simp) b (by simp); have y7 := h.sym e (by simp) b (by simp)
  have y8 := h.sym d (by simp) c (by simp); have y9 := h.sym e (by simp) c (by simp); have y10 := h.sym e (by simp) d (by simp)
  have o1 := h.off a (by simp) b (by simp) n1; have o2 := h.off a (by simp) c (by simp) n2; have o3 := h.off a (by simp) d (by simp) n3; have o4 := h.off a (by simp) e (by simp) n4
  have o5 := h.off b (by simp) c (by simp) n5; have o6 := h.off b (by simp) d (by simp) n6; have o7 := h.off b (by simp) e (by simp) n7
  have o8 := h.off c (by simp) d (by simp) n8; have o9 := h.off c (by simp) e (by simp) n9; have o10 := h.off d (by simp) e (by simp) n10
  refine ⟨-at2 M a b, -at2 M a c, -at2 M a d, -at2 M a e, -at2 M b c, -at2 M b d, -at2 M b e, -at2 M c d, -at2 M c e, -at2 M d e, by omega, by omega, by omega, by omega, by omega, by omega, by omega, by omega, by omega, by omega, ?_⟩
  refine ⟨by omega, by omega, by omega, by omega, by omega, by omega, by omega, by omega, by omega, by omega, by omega, by omega, by omega, by omega, by omega, by omega, by omega, by omega, by omega, by omega, by omega, by omega, by omega, by omega, by omega⟩
theorem LapZ.four {M : List (List Int)} {a b c d : Int} (h : LapZ M [a, b, c, d]) : ∃ ab ac ad bc bd cd : Int, 0 ≤ ab ∧ 0 ≤ ac ∧ 0 ≤ ad ∧ 0 ≤ bc ∧ 0 ≤ bd ∧ 0 ≤ cd ∧
    at2 M a b = -ab ∧ at2 M b a = -ab ∧ at2 M a c = -ac ∧ at2 M c a = -ac ∧ at2 M a d = -ad ∧ at2 M d a = -ad ∧ at2 M b c = -bc ∧ at2 M c b = -bc ∧ at2 M b d = -bd ∧ at2 M d b = -bd ∧ at2 M c d = -cd ∧ at2 M d c = -cd ∧
    at2 M a a = ab + ac + ad ∧ at2 M b b = ab + bc + bd ∧ at2 M c c = ac + bc + cd ∧ at2 M d d = ad + bd + cd := by
  have hn := h.nd
  simp only [List.nodup_cons, List.mem_cons, List.not_mem_nil, or_false, not_or, List.nodup_nil, and_true, not_false_eq_true] at hn
  obtain ⟨⟨n1, n2, n3⟩, ⟨n5, n6⟩, n8⟩ := hn
  have sa := h.sum a (by simp); have sb := h.sum b (by simp); have sc := h.sum c (by simp); have sd := h.sum d (by simp)
  simp only [List.map_cons, List.map_nil, List.sum_cons, List.sum_nil] at sa sb sc sd
  have y1 := h.sym b (by simp) a (by simp); have y2 := h.sym c (by simp) a (by simp); have y3 := h.sym d (by simp) a (by simp)
  have y5 := h.sym c (by simp) b (by simp); have y6 := h.sym d (by simp) b (by simp); have y8 := h.sym d (by simp) c (by simp)
  have o1 := h.off a (by simp) b (by simp) n1; have o2 := h.off a (by simp) c (by simp) n2; have o3 := h.off a (by simp) d (by simp) n3
  have o5 := h.off b (by simp) c (by simp) n5; have o6 := h.off b (by simp) d (by simp) n6; have o8 := h.off c (by simp) d (by simp) n8
  refine ⟨-at2 M a b, -at2 M a c, -at2 M a d, -at2 M b c, -at2 M b d, -at2 M c d, by omega, by omega, by omega, by omega, by omega, by omega, ?_⟩
  refine ⟨by omega, by omega, by omega, by omega, by omega, by omega, by omega, by omega, by omega, by omega, by omega, by omega, by omega, by omega, by omega, by omega⟩
theorem LapZ.three {M : List (List Int)} {a b c : Int} (h : LapZ M [a, b, c]) : ∃ ab ac bc : Int, 0 ≤ ab ∧ 0 ≤ ac ∧ 0 ≤ bc ∧
    at2 M a b = -ab ∧ at2 M b a = -ab ∧ at2 M a c = -ac ∧ at2 M c a = -ac ∧ at2 M b c = -bc ∧ at2 M c b = -bc ∧ at2 M a a = ab + ac ∧ at2 M b b = ab + bc ∧ at2 M c c = ac + bc := by
  have hn := h.nd
  simp only [List.nodup_cons, List.mem_cons, List.not_mem_nil, or_false, not_or, List.nodup_nil, and_true, not_false_eq_true] at hn
  obtain ⟨⟨n1, n2⟩, n5⟩ := hn
  have sa := h.sum a (by simp); have sb := h.sum b (by simp); have sc := h.sum c (by simp)
  simp only [List.map_cons, List.map_nil, List.sum_cons, List.sum_nil] at sa sb sc
  have y1 := h.sym b (by simp) a (by simp); have y2 := h.sym c (by simp) a (by simp); have y5 := h.sym c (by simp) b (by simp)
  have o1 := h.off a (by simp) b (by simp) n1; have o2 := h.off a (by simp) c (by simp) n2; have o5 := h.off b (by simp) c (by simp) n5
  refine ⟨-at2 M a b, -at2 M a c, -at2 M b c, by omega, by omega, by omega, ?_⟩
  refine ⟨by omega, by omega, by omega, by omega, by omega, by omega, by omega, by omega, by omega⟩
theorem LapZ.two {M : List (List Int)} {a b : Int} (h : LapZ M [a, b]) : ∃ ab : Int, 0 ≤ ab ∧ at2 M a b = -ab ∧ at2 M b a = -ab ∧ at2 M a a = ab ∧ at2 M b b = ab := by
  have hn := h.nd
  simp only [List.nodup_cons, List.mem_cons, List.not_mem_nil, or_false, not_or, List.nodup_nil, and_true, not_false_eq_true] at hn
  have sa := h.sum a (by simp); have sb := h.sum b (by simp)
  simp only [List.map_cons, List.map_nil, List.sum_cons, List.sum_nil] at sa sb
  have y1 := h.sym b (by simp) a (by simp)
  have o1 := h.off a (by simp) b (by simp) hn
  exact ⟨-at2 M a b, by omega, by omega, by omega, by omega, by omega⟩
theorem LapZ.ground {M : List (List Int)} {a b : Int} {r : List Int} (h : LapZ M (a :: b :: r)) (hl : r.length ≤ 3) : detZ M (b :: r) (b :: r) = detZ M (a :: r) (a :: r) := by
  match r, hl with
  | [], _ =>
    obtain ⟨ab, _, e1, e2, e3, e4⟩ := h.two
    simp only [detZ1, e3, e4]
  | [c], _ =>
    obtain ⟨ab, ac, bc, _, _, _, e1, e2, e3, e4, e5, e6, e7, e8, e9⟩ := h.three
    simp only [detZ2, e1, e2, e3, e4, e5, e6, e7, e8, e9]; grind
  | [c, d], _ =>
    obtain ⟨ab, ac, ad, bc, bd, cd, _, _, _, _, _, _, e1, e2, e3, e4, e5, e6, e7, e8, e9, e10, e11, e12, e13, e14, e15, e16⟩ := h.four
    simp only [detZ3, e1, e2, e3, e4, e5, e6, e7, e8, e9, e10, e11, e12, e13, e14, e15, e16]; grind
  | [c, d, e], _ =>
    obtain ⟨ab, ac, ad, ae, bc, bd, be, cd, ce, de, _, _, _, _, _, _, _, _, _, _, e1, e2, e3, e4, e5, e6, e7, e8, e9, e10, e11, e12, e13, e14, e15, e16, e17, e18, e19, e20, e21, e22, e23, e24, e25⟩ := h.five
    simp only [detZ4, e1, e2, e3, e4, e5, e6, e7, e8, e9, e10, e11, e12, e13, e14, e15, e16, e17, e18, e19, e20, e21, e22, e23, e24, e25]
    exact ground_id ab ac ad ae bc bd be cd ce de
theorem mul_nn {a b : Int} (ha : 0 ≤ a) (hb : 0 ≤ b) : 0 ≤ a * b := Int.mul_nonneg ha hb
theorem nn2 {s t w : Int} (hw : 0 ≤ w) (h1 : w ≤ s) (h2 : w ≤ t) : 0 ≤ s * t - w * w := by
  have a : 0 ≤ (s - w) * t := mul_nn (by omega) (by omega)
  have b : 0 ≤ w * (t - w) := mul_nn (by omega) (by omega)
  have e : s * t - w * w = (s - w) * t + w * (t - w) := by grind
  omega
theorem nn3 {s t u p q r : Int} (hp : 0 ≤ p) (hq : 0 ≤ q) (hr : 0 ≤ r) (h1 : p + q ≤ s) (h2 : p + r ≤ t) (h3 : q + r ≤ u) :
    0 ≤ s * (t * u - r * r) - p * (p * u + r * q) - q * (p * r + t * q) := by
  have hs : 0 ≤ s := by omega
  by_cases h0 : s = 0
  · have e1 : p = 0 := by omega
    have e2 : q = 0 := by omega
    subst h0; subst e1; subst e2; simp
  · have k1 : 0 ≤ s * t - p * p - (s * r + p * q) := by
      have a : 0 ≤ s * (t - r - p) := mul_nn hs (by omega)
      have b : 0 ≤ p * (s - p - q) := mul_nn hp (by omega)
      have e : s * t - p * p - (s * r + p * q) = s * (t - r - p) + p * (s - p - q) := by grind
      omega
    have k2 : 0 ≤ s * u - q * q - (s * r + p * q) := by
      have a : 0 ≤ s * (u - r - q) := mul_nn hs (by omega)
      have b : 0 ≤ q * (s - p - q) := mul_nn hq (by omega)
      have e : s * u - q * q - (s * r + p * q) = s * (u - r - q) + q * (s - p - q) := by grind
      omega
    have k3 : 0 ≤ s * r + p * q := by have := mul_nn hs hr; have := mul_nn hp hq; omega
    have key := nn2 k3 (s := s * t - p * p) (t := s * u - q * q) (by omega) (by omega)
    have e : (s * t - p * p) * (s * u - q * q) - (s * r + p * q) * (s * r + p * q) = s * (s * (t * u - r * r) - p * (p * u + r * q) - q * (p * r + t * q)) := by grind
    rw [e] at key
    exact Int.nonneg_of_mul_nonneg_right key (by omega)
end Go.Sx.R
namespace Go.Sx.R
open Go Go.Sx
def gcdW (g : Nat) (l : List W3) : Nat := l.foldl (fun g x => Nat.gcd g x.2.2.natAbs) g
theorem gcdW_snoc (g : Nat) (l : List W3) (x : W3) : gcdW g (l ++ [x]) = Nat.gcd (gcdW g l) x.2.2.natAbs := by simp [gcdW]
theorem gcdW_cons (g : Nat) (l : List W3) (x : W3) : gcdW g (x :: l) = gcdW (Nat.gcd g x.2.2.natAbs) l := rfl
theorem gcdW_dvd : ∀ (l : List W3) (g : Nat), gcdW g l ∣ g ∧ ∀ x ∈ l, gcdW g l ∣ x.2.2.natAbs
  | [], g => ⟨Nat.dvd_refl _, by simp⟩
  | x :: l, g => by
    have h := gcdW_dvd l (Nat.gcd g x.2.2.natAbs)
    rw [gcdW_cons]
    refine ⟨Nat.dvd_trans h.1 (Nat.gcd_dvd_left _ _), fun y hy => ?_⟩
    rcases List.mem_cons.1 hy with rfl | hy
    · exact Nat.dvd_trans h.1 (Nat.gcd_dvd_right _ _)
    · exact h.2 y hy
theorem gcdW_pos {g : Nat} (h : 0 < g) (l : List W3) : 0 < gcdW g l := Nat.pos_of_dvd_of_pos (gcdW_dvd l g).1 h
theorem gcdW_le {g : Nat} (h : 0 < g) (l : List W3) : gcdW g l ≤ g := Nat.le_of_dvd h (gcdW_dvd l g).1
def divW (g : Nat) (x : W3) : W3 := (x.1, x.2.1, x.2.2 / (g : Int))
def gN (n : TNet) : Nat := gcdW n.2.2.1.natAbs n.2.2.2
def canon (n : TNet) : TNet := (n.1, n.2.1, n.2.2.1 / (gN n : Int), n.2.2.2.map (divW (gN n)))
structure Fine (n : TNet) : Prop where
  s1 : 1 ≤ n.2.2.1
  s2 : n.2.2.1 ≤ 1000000000000000
  w : ∀ x ∈ n.2.2.2, 1 ≤ x.2.2 ∧ x.2.2 ≤ 1000000000000000
  sm : Sm.sm B1 n
def half {β : Type} (f : β → β) (l : List β) (i : Nat) : List β := (l.take i).map f ++ l.drop i
theorem half_get {β : Type} {f : β → β} {l : List β} {i : Nat} {x : β} (h : l[i]? = some x) : (half f l i)[i]? = some x := by
  have hi : i < l.length := get_lt h
  rw [half, List.getElem?_append_right (by simp; omega)]
  have : i - ((l.take i).map f).length = 0 := by simp; omega
  rw [this, List.getElem?_drop]; simpa using h
theorem half_set {β : Type} {f : β → β} {l : List β} {i : Nat} {x : β} (h : l[i]? = some x) : (half f l i).set i (f x) = half f l (i + 1) := by
  have hi : i < l.length := get_lt h
  have hl : ((l.take i).map f).length = i := by simp; omega
  have e : l.drop i = x :: l.drop (i + 1) := by
    rw [List.drop_eq_getElem_cons hi]
    rw [List.getElem?_eq_getElem hi] at h
    simp only [Option.some.injEq] at h
    rw [h]
  rw [half, half, e, List.set_append_right _ _ (by omega), hl, Nat.sub_self, List.set_cons_zero, List.take_add_one, h]
  simp
theorem half_zero {β : Type} (f : β → β) (l : List β) : half f l 0 = l := by simp [half]
theorem half_all {β : Type} (f : β → β) (l : List β) : half f l l.length = l.map f := by simp [half]
theorem p_GcdN (a b : Nat) (ha : a ≤ 1000000000000000) (hb : b ≤ 1000000000000000) : e_impl_GcdOf ((a : Int), (b : Int), ()) = some ((Nat.gcd a b : Nat) : Int) := by
  have d1 : decide ((a : Int) = -9223372036854775808) = false := by rw [decide_eq_false_iff_not]; omega
  have d2 : decide ((b : Int) = -9223372036854775808) = false := by rw [decide_eq_false_iff_not]; omega
  have hg : Nat.gcd a b ≤ 1000000000000000 := by
    by_cases h : b = 0
    · subst h; simpa using ha
    · exact Nat.le_trans (Nat.gcd_le_right _ (by omega)) hb
  have w : wr ((Nat.gcd a b : Nat) : Int) = ((Nat.gcd a b : Nat) : Int) := wr_id (by omega) (by omega)
  simp only [e_impl_GcdOf, r_impl_GcdOf, d1, d2, cond_false, p_size a (by omega), p_size b (by omega), p_common a b (by omega), Option.bind_some, w]
theorem tdiv_pos {a : Int} (g : Nat) (h : 0 ≤ a) : Int.tdiv a (g : Int) = a / (g : Int) := Int.tdiv_eq_ediv_of_nonneg h
theorem div_bd {a : Int} {g : Nat} (h : 0 ≤ a) : 0 ≤ a / (g : Int) ∧ a / (g : Int) ≤ a := by
  refine ⟨Int.ediv_nonneg h (by omega), ?_⟩
  exact Int.ediv_le_self _ h
theorem Fine.canon_sm {n : TNet} (h : Fine n) : Sm.sm B1 (canon n) := by
  have hs := h.sm
  have s1 := h.s1
  have s2 := h.s2
  have b := div_bd (g := gN n) (show 0 ≤ n.2.2.1 by omega)
  refine ⟨hs.1, hs.2.1, (⟨by simp only [canon]; omega, by simp only [canon]; omega⟩ : Sm.sm B1 (canon n).2.2.1), by simpa [canon] using hs.2.2.2.1, fun x hx => ?_⟩
  simp only [canon, List.mem_map] at hx
  obtain ⟨y, hy, rfl⟩ := hx
  have hy1 := h.w y hy
  have hy2 := hs.2.2.2.2 y hy
  have b2 := div_bd (g := gN n) (show 0 ≤ y.2.2 by omega)
  exact ⟨hy2.1, hy2.2.1, (⟨by simp only [divW]; omega, by simp only [divW]; omega⟩ : Sm.sm B1 (divW (gN n) y).2.2)⟩
theorem Fine.g_pos {n : TNet} (h : Fine n) : 0 < gN n := gcdW_pos (by have := h.s1; omega) _
theorem WiresOf.fine {f : Nat → Nat → Int} {m : Nat} (hm5 : m ≤ 5) {l : List W3} (h : WiresOf f m (fun _ _ => True) l) {ends scale : Int} (hs : 1 ≤ scale ∧ scale ≤ 1000000000000000) (he : Sm.sm B1 ends)
    (hf : ∀ i j, i < j → j < m → 0 ≤ f i j ∧ f i j ≤ 1000000000000000) : Fine ((m : Int), ends, scale, l) := by
  have hw : ∀ x ∈ l, 1 ≤ x.2.2 ∧ x.2.2 ≤ 1000000000000000 := fun x hx => by
    obtain ⟨a, b, _, h2, h3, h4, rfl⟩ := (h.mem x).1 hx
    have := hf a b h2 h3
    simp only
    omega
  refine ⟨hs.1, hs.2, hw, ⟨by omega, by omega⟩, he, (⟨by omega, by omega⟩ : Sm.sm B1 scale), ⟨?_, fun x hx => ?_⟩⟩
  · have := h.len
    have : m * m ≤ 25 := Nat.mul_le_mul hm5 hm5
    simp only [B1]; omega
  · have hx2 := hw x hx
    obtain ⟨a, b, _, h2, h3, h4, rfl⟩ := (h.mem x).1 hx
    have hx3 : 1 ≤ f a b ∧ f a b ≤ 1000000000000000 := hx2
    exact ⟨(⟨by omega, by omega⟩ : Sm.sm B1 (a : Int)), (⟨by omega, by omega⟩ : Sm.sm B1 (b : Int)), (⟨by omega, by omega⟩ : Sm.sm B1 (f a b))⟩
theorem p_netOfC (ends scale : Int) (T : List (List Int)) (m : Nat) (hm1 : 1 ≤ m) (hm5 : m ≤ 5) (f : Nat → Nat → Int) (hT : IsTab T m f) (hs : 1 ≤ scale ∧ scale ≤ 1000000000000000) (he : Sm.sm B1 ends) (hf : ∀ i j, i < j → j < m → 0 ≤ f i j ∧ f i j ≤ 1000000000000000) :
    ∃ l, WiresOf f m (fun _ _ => True) l ∧ Fine ((m : Int), ends, scale, l) ∧ e_impl_netOf (ends, scale, T, true, ()) = some (cond (netok (canon ((m : Int), ends, scale, l))) (canon ((m : Int), ends, scale, l), true) ((0, 0, 0, []), false)) := by
  obtain ⟨hTl, hrow⟩ := hT
  obtain ⟨sN, hsN⟩ : ∃ s : Nat, scale = s := ⟨scale.toNat, by omega⟩
  have hd : (List.range m).length = m := by simp
  simp only [e_impl_netOf, r_impl_netOf, hTl]
  refine iter_rule (R := TNet × Bool) (body := r_impl_netOf_L0 e_impl_NetOk e_impl_GcdOf N0) (ke := fun s1 => cond s1.2.1 _ _) (fun o => ∃ l, WiresOf f m (fun _ _ => True) l ∧ Fine ((m : Int), ends, scale, l) ∧ o = some (cond (netok (canon ((m : Int), ends, scale, l))) (canon ((m : Int), ends, scale, l), true) ((0, 0, 0, []), false))) (List.range m)
    (fun (st : List W3 × Int) i => (T, true, (0, 0, 0, []), ((m : Int), ends, scale, st.1), st.2, (m : Int), i, ())) (fun i st => WiresOf f m (fun a _ => a < i) st.1 ∧ st.2 = (gcdW sN st.1 : Int)) (fun st i x kc ⟨p1, p2⟩ hx hi hk => ?_) (fun st kc ⟨p1, p2⟩ => ?_) (N := N0) (by have := N0_big; omega) ([], scale)
    ⟨⟨List.Pairwise.nil, fun x => ⟨fun h => by simp at h, fun ⟨a, b, h, _⟩ => absurd h (Nat.not_lt_zero _)⟩⟩, hsN⟩
  · have him : i < m := by rw [hd] at hi; exact hi
    have d1 : decide ((i : Int) < (m : Int)) = true := by rw [decide_eq_true_eq]; omega
    have w1 : wr ((i : Int) + 1) = ((i + 1 : Nat) : Int) := wr_succ him (by omega)
    obtain ⟨row, r1, r2, r3⟩ := hrow i him
    simp only [r_impl_netOf_L0, d1, cond_true, w1]
    have hd2 : (List.range (m - (i + 1))).length = m - (i + 1) := by simp
    have inner := iter_rule (R := TNet × Bool) (body := r_impl_netOf_L2 e_impl_NetOk e_impl_GcdOf N0) (ke := fun s1 => kc (s1.1, s1.2.1, s1.2.2.1, s1.2.2.2.1, s1.2.2.2.2.1, s1.2.2.2.2.2.2.2.1, wr (s1.2.2.2.2.2.2.2.2.1 + 1), ())) (fun o => ∃ l, WiresOf f m (fun _ _ => True) l ∧ Fine ((m : Int), ends, scale, l) ∧ o = some (cond (netok (canon ((m : Int), ends, scale, l))) (canon ((m : Int), ends, scale, l), true) ((0, 0, 0, []), false)))
      (List.range (m - (i + 1))) (fun (st : List W3 × Int) j => (T, true, (0, 0, 0, []), ((m : Int), ends, scale, st.1), st.2, (i : Int), ((i + 1 : Nat) : Int) + j, (m : Int), (i : Int), ())) (fun j st => WiresOf f m (fun a b => a < i ∨ (a = i ∧ b < i + 1 + j)) st.1 ∧ st.2 = (gcdW sN st.1 : Int))
      (fun st j y kc2 ⟨q1, q2⟩ hy hj hk2 => ?_) (fun st kc2 ⟨q1, q2⟩ => ?_) (N := N0) (by have := N0_big; omega) st ⟨⟨p1.srt, fun x => ?_⟩, p2⟩
    · have e0 : ((i + 1 : Nat) : Int) + (0 : Int) = ((i + 1 : Nat) : Int) := by omega
      simp only [e0] at inner
      exact inner
    · rw [hd2] at hj
      have hjm : i + 1 + j < m := by omega
      have e1 : ((i + 1 : Nat) : Int) + (j : Int) = ((i + 1 + j : Nat) : Int) := by omega
      have d2 : decide (((i + 1 + j : Nat) : Int) < (m : Int)) = true := by rw [decide_eq_true_eq]; omega
      have w2 : wr (((i + 1 + j : Nat) : Int) + 1) = ((i + 1 : Nat) : Int) + ((j + 1 : Nat) : Int) := by rw [wr_id (by omega) (by omega)]; omega
      simp only [r_impl_netOf_L2, hTl, e1, d2, cond_true, getI_nat, r1, Option.bind_some, r3 (i + 1 + j) hjm, w2]
      by_cases hz : f i (i + 1 + j) = 0
      · simp only [hz, decide_true, Bool.not_true, cond_false]
        refine hk2 st ⟨⟨q1.srt, fun x => ?_⟩, q2⟩
        rw [q1.mem]
        constructor
        · rintro ⟨a, b, h1, h2, h3, h4, h5⟩; exact ⟨a, b, by omega, h2, h3, h4, h5⟩
        · rintro ⟨a, b, h1, h2, h3, h4, h5⟩
          refine ⟨a, b, ?_, h2, h3, h4, h5⟩
          by_cases e : a = i ∧ b = i + 1 + j
          · obtain ⟨rfl, rfl⟩ := e; exact absurd hz h4
          · omega
      · have hln : st.1.length + 1 ≤ 17179869184 := by
          have := q1.len
          have : m * m ≤ 25 := Nat.mul_le_mul hm5 hm5
          omega
        have hfb := hf i (i + 1 + j) (by omega) hjm
        obtain ⟨fN, hfN⟩ : ∃ k : Nat, f i (i + 1 + j) = k := ⟨(f i (i + 1 + j)).toNat, by omega⟩
        have hgl := gcdW_le (show 0 < sN by omega) st.1
        have hg1 : e_impl_GcdOf (st.2, f i (i + 1 + j), ()) = some ((Nat.gcd (gcdW sN st.1) fN : Nat) : Int) := by rw [q2, hfN]; exact p_GcdN _ _ (by omega) (by omega)
        simp only [hz, decide_false, Bool.not_false, cond_true, List.length_cons, List.length_nil, Nat.zero_add, ble_true hln, hg1, Option.bind_some]
        refine hk2 (st.1 ++ [((i : Int), ((i + 1 + j : Nat) : Int), f i (i + 1 + j))], ((Nat.gcd (gcdW sN st.1) fN : Nat) : Int)) ⟨⟨?_, fun x => ?_⟩, ?_⟩
        · refine List.pairwise_append.2 ⟨q1.srt, by simp, fun x hx y hy => ?_⟩
          simp at hy; subst hy
          obtain ⟨a, b, h1, h2, h3, h4, rfl⟩ := (q1.mem x).1 hx
          simp only [lex, Bool.or_eq_true, Bool.and_eq_true, decide_eq_true_eq]; omega
        · rw [List.mem_append, q1.mem]
          constructor
          · rintro (⟨a, b, h1, h2, h3, h4, h5⟩ | h)
            · exact ⟨a, b, by omega, h2, h3, h4, h5⟩
            · simp at h; exact ⟨i, i + 1 + j, by omega, by omega, hjm, hz, h⟩
          · rintro ⟨a, b, h1, h2, h3, h4, h5⟩
            by_cases e : a = i ∧ b = i + 1 + j
            · obtain ⟨rfl, rfl⟩ := e; right; simp [h5]
            · left; exact ⟨a, b, by omega, h2, h3, h4, h5⟩
        · rw [gcdW_snoc]
          show _ = ((Nat.gcd (gcdW sN st.1) (f i (i + 1 + j)).natAbs : Nat) : Int)
          rw [hfN]; rfl
    · have e1 : ((i + 1 : Nat) : Int) + (((List.range (m - (i + 1))).length : Nat) : Int) = (m : Int) := by rw [hd2]; omega
      have d2 : decide ((m : Int) < (m : Int)) = false := by simp
      simp only [r_impl_netOf_L2, hTl, e1, d2, cond_false, w1]
      refine hk st ⟨⟨q1.srt, fun x => ?_⟩, q2⟩
      rw [q1.mem, hd2]
      constructor
      · rintro ⟨a, b, h1, h2, h3, h4, h5⟩; exact ⟨a, b, by omega, h2, h3, h4, h5⟩
      · rintro ⟨a, b, h1, h2, h3, h4, h5⟩; exact ⟨a, b, by omega, h2, h3, h4, h5⟩
    · rw [p1.mem]
      constructor
      · rintro ⟨a, b, h1, h2, h3, h4, h5⟩; exact ⟨a, b, by omega, h2, h3, h4, h5⟩
      · rintro ⟨a, b, h1, h2, h3, h4, h5⟩; exact ⟨a, b, by omega, h2, h3, h4, h5⟩
  · have d2 : decide ((((List.range m).length : Nat) : Int) < (m : Int)) = false := by rw [decide_eq_false_iff_not, hd]; omega
    have hl : WiresOf f m (fun _ _ => True) st.1 := ⟨p1.srt, fun x => by
      rw [p1.mem, hd]
      constructor
      · rintro ⟨a, b, h1, h2, h3, h4, h5⟩; exact ⟨a, b, trivial, h2, h3, h4, h5⟩
      · rintro ⟨a, b, h1, h2, h3, h4, h5⟩; exact ⟨a, b, by omega, h2, h3, h4, h5⟩⟩
    have hF := hl.fine hm5 hs he hf
    refine ⟨st.1, hl, hF, ?_⟩
    have hgp := gcdW_pos (show 0 < sN by omega) st.1
    have hgl := gcdW_le (show 0 < sN by omega) st.1
    have hgN : gN ((m : Int), ends, scale, st.1) = gcdW sN st.1 := by simp only [gN, hsN, Int.natAbs_natCast]
    have dz : decide ((gcdW sN st.1 : Int) = 0) = false := by rw [decide_eq_false_iff_not]; omega
    have hsd := div_bd (a := scale) (g := gcdW sN st.1) (by omega)
    have ws : wr (Int.tdiv scale (gcdW sN st.1 : Int)) = scale / (gcdW sN st.1 : Int) := by rw [tdiv_pos _ (by omega)]; exact wr_id (by omega) (by omega)
    simp only [r_impl_netOf_L0, d2, cond_false, cond_true, p2, dz, ws]
    have hlen : st.1.length ≤ 25 := by
      have := hl.len
      have : m * m ≤ 25 := Nat.mul_le_mul hm5 hm5
      omega
    refine iter_rule (R := TNet × Bool) (body := r_impl_netOf_L4 e_impl_NetOk e_impl_GcdOf N0) (fun o => o = some (cond (netok (canon ((m : Int), ends, scale, st.1))) (canon ((m : Int), ends, scale, st.1), true) ((0, 0, 0, []), false))) st.1
      (fun (q : List W3) i => ((0, 0, 0, []), ((m : Int), ends, scale / (gcdW sN st.1 : Int), q), (gcdW sN st.1 : Int), (st.1.length : Int), i, ())) (fun i q => q = half (divW (gcdW sN st.1)) st.1 i) (fun q i x kc hq hx hi hk => ?_) (fun q kc hq => ?_) (N := N0) (by have := N0_big; omega) st.1 (half_zero _ _).symm
    · have d3 : decide ((i : Int) < (st.1.length : Int)) = true := by rw [decide_eq_true_eq]; omega
      have hg := half_get (f := divW (gcdW sN st.1)) hx
      have hxw := hF.w x (List.mem_of_getElem? hx)
      have hxd := div_bd (a := x.2.2) (g := gcdW sN st.1) (by omega)
      have wx : wr (Int.tdiv x.2.2 (gcdW sN st.1 : Int)) = x.2.2 / (gcdW sN st.1 : Int) := by rw [tdiv_pos _ (by omega)]; exact wr_id (by omega) (by omega)
      simp only [r_impl_netOf_L4, d3, cond_true, getI_nat, hq, hg, Option.bind_some, dz, cond_false, wx, Int.toNat_natCast, wr_succ hi (by omega)]
      exact hk _ (half_set (f := divW (gcdW sN st.1)) hx)
    · have d3 : decide ((st.1.length : Int) < (st.1.length : Int)) = false := by simp
      have hcan : ((m : Int), ends, scale / (gcdW sN st.1 : Int), st.1.map (divW (gcdW sN st.1))) = canon ((m : Int), ends, scale, st.1) := by simp only [canon, hgN]
      rw [half_all] at hq
      subst hq
      simp only [r_impl_netOf_L4, d3, cond_false, hcan, p_NetOk _ hF.canon_sm, Option.bind_some]
      cases netok (canon ((m : Int), ends, scale, st.1)) <;> rfl
end Go.Sx.R
namespace Go.Sx.R
open Go Go.Sx
def keyB (A B : Int) (e : W3) : Bool := decide (e.1 = A) && decide (e.2.1 = B)
theorem keyB_iff {A B : Int} {e : W3} : keyB A B e = true ↔ e.1 = A ∧ e.2.1 = B := by simp [keyB]
theorem lex_iff {x y : W3} : lex x y = true ↔ x.1 < y.1 ∨ (x.1 = y.1 ∧ x.2.1 < y.2.1) := by
  simp only [lex, Bool.or_eq_true, Bool.and_eq_true, decide_eq_true_eq]
def ins (x : W3) : List W3 → List W3
  | [] => [x]
  | e :: l => if lex x e = true then x :: e :: l else e :: ins x l
theorem mem_ins (x y : W3) : ∀ l, y ∈ ins x l ↔ y = x ∨ y ∈ l
  | [] => by simp [ins]
  | e :: l => by
    rw [ins]
    split
    · simp
    · simp only [List.mem_cons, mem_ins x y l]
      constructor
      · rintro (h | h | h) <;> simp [h]
      · rintro (h | h | h) <;> simp [h]
theorem srt_ins (x : W3) : ∀ l, Srt l → (∀ e ∈ l, ¬ (e.1 = x.1 ∧ e.2.1 = x.2.1)) → Srt (ins x l)
  | [], _, _ => by simp [ins]
  | e :: l, h, hx => by
    have h1 := List.pairwise_cons.1 h
    rw [ins]
    split
    · rename_i hl
      refine List.pairwise_cons.2 ⟨fun y hy => ?_, h⟩
      rcases List.mem_cons.1 hy with rfl | hy
      · exact hl
      · exact lex_trans hl (h1.1 y hy)
    · rename_i hl
      have hex := hx e (by simp)
      refine List.pairwise_cons.2 ⟨fun y hy => ?_, srt_ins x l h1.2 fun y hy => hx y (by simp [hy])⟩
      rcases (mem_ins x y l).1 hy with rfl | hy
      · rw [lex_iff] at hl ⊢; omega
      · exact h1.1 y hy
def keyS (A B : Int) (l : List W3) : Int := ((l.filter (keyB A B)).map fun e => e.2.2).sum
def putL (l : List W3) (A B w : Int) : List W3 := ins (A, B, w + keyS A B l) (l.filter fun e => !keyB A B e)
theorem keyS_cons (A B : Int) (x : W3) (l : List W3) : keyS A B (x :: l) = (if keyB A B x = true then x.2.2 else 0) + keyS A B l := by
  simp only [keyS, List.filter_cons]
  split <;> simp
theorem keyS_none {A B : Int} : ∀ {l : List W3}, (∀ e ∈ l, ¬ (e.1 = A ∧ e.2.1 = B)) → keyS A B l = 0
  | [], _ => rfl
  | x :: l, h => by
    have h1 : keyB A B x = false := by
      have := h x (by simp)
      rw [← keyB_iff] at this; simpa using this
    rw [keyS_cons, h1, keyS_none fun e he => h e (by simp [he])]; rfl
theorem keyS_one {A B w : Int} : ∀ {l : List W3}, Srt l → (A, B, w) ∈ l → keyS A B l = w
  | [], _, h => by simp at h
  | x :: l, hs, h => by
    have h1 := List.pairwise_cons.1 hs
    rw [keyS_cons]
    rcases List.mem_cons.1 h with rfl | h
    · have : keyB A B (A, B, w) = true := by simp [keyB]
      rw [this, keyS_none fun e he => ?_]
      · simp
      · have := h1.1 e he
        rw [lex_iff] at this; simp only at this; omega
    · have hl := h1.1 _ h
      have : keyB A B x = false := by
        rw [lex_iff] at hl; simp only at hl
        have : ¬ (x.1 = A ∧ x.2.1 = B) := by omega
        rw [← keyB_iff] at this; simpa using this
      rw [this, keyS_one h1.2 h]; simp
structure Acc (m : Nat) (F : Nat → Nat → Int) (l : List W3) : Prop where
  srt : Srt l
  val : ∀ x ∈ l, ∃ a b : Nat, a < b ∧ b < m ∧ x = ((a : Int), (b : Int), F a b)
  all : ∀ a b : Nat, a < b → b < m → F a b ≠ 0 → ((a : Int), (b : Int), F a b) ∈ l
theorem Acc.congr {m : Nat} {F G : Nat → Nat → Int} {l : List W3} (h : Acc m F l) (e : ∀ a b, a < b → b < m → F a b = G a b) : Acc m G l :=
  ⟨h.srt, fun x hx => by
    obtain ⟨a, b, h1, h2, h3⟩ := h.val x hx
    exact ⟨a, b, h1, h2, by rw [← e a b h1 h2]; exact h3⟩, fun a b h1 h2 h3 => by rw [← e a b h1 h2] at h3 ⊢; exact h.all a b h1 h2 h3⟩
theorem Acc.nil (m : Nat) : Acc m (fun _ _ => 0) [] := ⟨List.Pairwise.nil, by simp, by simp⟩
theorem Acc.key {m : Nat} {F : Nat → Nat → Int} {l : List W3} (h : Acc m F l) {a b : Nat} (hab : a < b) (hb : b < m) : keyS (a : Int) (b : Int) l = F a b := by
  by_cases hx : ∃ x ∈ l, x.1 = (a : Int) ∧ x.2.1 = (b : Int)
  · obtain ⟨x, hx, e1, e2⟩ := hx
    obtain ⟨a', b', h1, h2, rfl⟩ := h.val x hx
    have ea : a' = a := by simp only at e1; omega
    have eb : b' = b := by simp only at e2; omega
    subst ea; subst eb
    exact keyS_one h.srt hx
  · rw [keyS_none fun e he hk => hx ⟨e, he, hk⟩]
    by_cases hz : F a b = 0
    · exact hz.symm
    · exact absurd ⟨_, h.all a b hab hb hz, rfl, rfl⟩ hx
theorem Acc.put {m : Nat} {F : Nat → Nat → Int} {l : List W3} (h : Acc m F l) {a b : Nat} (hab : a < b) (hb : b < m) (w : Int) : Acc m (fun i j => if i = a ∧ j = b then F i j + w else F i j) (putL l (a : Int) (b : Int) w) := by
  have hk := h.key hab hb
  have hmem : ∀ y, y ∈ putL l (a : Int) (b : Int) w ↔ y = ((a : Int), (b : Int), w + F a b) ∨ (y ∈ l ∧ ¬ (y.1 = (a : Int) ∧ y.2.1 = (b : Int))) := fun y => by
    have : (!keyB (a : Int) (b : Int) y) = true ↔ ¬ (y.1 = (a : Int) ∧ y.2.1 = (b : Int)) := by rw [← keyB_iff]; simp
    rw [putL, mem_ins, hk, List.mem_filter, this]
  refine ⟨?_, fun y hy => ?_, fun a' b' h1 h2 h3 => ?_⟩
  · rw [putL]
    refine srt_ins _ _ (List.Pairwise.filter _ h.srt) fun e he => ?_
    have := (List.mem_filter.1 he).2
    rw [← keyB_iff]; simpa using this
  · rcases (hmem y).1 hy with rfl | ⟨h1, h2⟩
    · exact ⟨a, b, hab, hb, by simp [Int.add_comm]⟩
    · obtain ⟨a', b', q1, q2, rfl⟩ := h.val y h1
      refine ⟨a', b', q1, q2, ?_⟩
      have : ¬ (a' = a ∧ b' = b) := fun ⟨e1, e2⟩ => h2 ⟨by simp [e1], by simp [e2]⟩
      simp only [if_neg this]
  · rw [hmem]
    by_cases e : a' = a ∧ b' = b
    · obtain ⟨rfl, rfl⟩ := e
      left; simp [Int.add_comm]
    · simp only [if_neg e] at h3 ⊢
      exact .inr ⟨h.all a' b' h1 h2 h3, fun ⟨e1, e2⟩ => e ⟨by have q : (a' : Int) = a := e1; omega, by have q : (b' : Int) = b := e2; omega⟩⟩
theorem Acc.wires {m : Nat} {F : Nat → Nat → Int} {l : List W3} (h : Acc m F l) : WiresOf F m (fun _ _ => True) (l.filter fun x => !decide (x.2.2 = 0)) := by
  refine ⟨List.Pairwise.filter _ h.srt, fun x => ?_⟩
  rw [List.mem_filter]
  constructor
  · rintro ⟨h1, h2⟩
    obtain ⟨a, b, q1, q2, rfl⟩ := h.val x h1
    exact ⟨a, b, trivial, q1, q2, by simpa using h2, rfl⟩
  · rintro ⟨a, b, _, q1, q2, q3, rfl⟩
    exact ⟨h.all a b q1 q2 q3, by simpa using q3⟩
theorem WiresOf.uniq {f g : Nat → Nat → Int} {m : Nat} {l k : List W3} (h : WiresOf f m (fun _ _ => True) l) (h' : WiresOf g m (fun _ _ => True) k) (e : ∀ a b, a < b → b < m → f a b = g a b) : l = k := by
  refine srt_ext h.srt h'.srt fun x => ?_
  rw [h.mem, h'.mem]
  constructor
  · rintro ⟨a, b, _, h1, h2, h3, h4⟩; rw [e a b h1 h2] at h3 h4; exact ⟨a, b, trivial, h1, h2, h3, h4⟩
  · rintro ⟨a, b, _, h1, h2, h3, h4⟩; rw [← e a b h1 h2] at h3 h4; exact ⟨a, b, trivial, h1, h2, h3, h4⟩
theorem Acc.len {m : Nat} {F : Nat → Nat → Int} {l : List W3} (h : Acc m F l) : l.length ≤ m * m := by
  have hn : l.Nodup := List.Pairwise.imp (fun {a b} hab e => by subst e; rw [lex_irr] at hab; cases hab) h.srt
  have := nodup_len (m := (List.range m).flatMap fun a => (List.range m).map fun b => (((a : Nat) : Int), ((b : Nat) : Int), F a b)) hn fun x hx => by
    obtain ⟨a, b, ha, hb, rfl⟩ := h.val x hx
    rw [List.mem_flatMap]
    exact ⟨a, List.mem_range.2 (by omega), List.mem_map.2 ⟨b, List.mem_range.2 hb, rfl⟩⟩
  refine Nat.le_trans this ?_
  have : ∀ k : Nat, ((List.range k).flatMap fun a => (List.range m).map fun b => (((a : Nat) : Int), ((b : Nat) : Int), F a b)).length = k * m := by
    intro k
    induction k with
    | zero => simp
    | succ k ih => rw [List.range_succ, List.flatMap_append, List.length_append, ih]; simp [Nat.add_mul]
  rw [this]; exact Nat.le_refl _
end Go.Sx.R
namespace Go.Sx.R
open Go Go.Sx
def mulW (k : Nat) (x : W3) : W3 := (x.1, x.2.1, x.2.2 * (k : Int))
def mulN (k : Nat) (n : TNet) : TNet := (n.1, n.2.1, n.2.2.1 * (k : Int), n.2.2.2.map (mulW k))
theorem mul_canon {n : TNet} (h : Fine n) : mulN (gN n) (canon n) = n := by
  have hd := gcdW_dvd n.2.2.2 n.2.2.1.natAbs
  have e : ∀ x : Int, gN n ∣ x.natAbs → x / (gN n : Int) * (gN n : Int) = x := fun x hx => Int.ediv_mul_cancel (Int.natAbs_dvd_natAbs.1 (by rw [Int.natAbs_natCast]; exact hx))
  obtain ⟨a, b, s, l⟩ := n
  simp only [mulN, canon, List.map_map, Prod.mk.injEq, true_and]
  refine ⟨e _ hd.1, ?_⟩
  have : l.map ((mulW (gN (a, b, s, l))) ∘ (divW (gN (a, b, s, l)))) = l.map id := List.map_congr_left fun x hx => by
    simp only [Function.comp, mulW, divW, id]
    rw [e _ (hd.2 x hx)]
  rw [this, List.map_id]
theorem wbt_mul (k : Nat) (ws : List W3) (a b : Int) : wbt (ws.map (mulW k)) a b = wbt ws a b * (k : Int) := by
  have hc : isW a b ∘ mulW k = isW a b := by funext x; rfl
  simp only [wbt, List.find?_map, hc]
  split
  · simp
  · cases ws.find? (isW a b) <;> simp [mulW]
end Go.Sx.R
namespace Go.Sx.R
open Go Go.Sx
def woG (l : List Int) (q : List Int) (i : Nat) (_ : Nat) : List Int := if (i : Int) ∈ l then q else q ++ [(i : Int)]
def wo (m : Nat) (l : List Int) : List Int := foldI (woG l) (List.range m) 0 []
theorem foldI_ind {β σ : Type} (p : Nat → σ → Prop) (g : σ → Nat → β → σ) (hg : ∀ s i x, p i s → p (i + 1) (g s i x)) : ∀ (l : List β) (i : Nat) (s : σ), p i s → p (i + l.length) (foldI g l i s)
  | [], i, s, h => by simpa [foldI] using h
  | x :: l, i, s, h => by
    have := foldI_ind p g hg l (i + 1) (g s i x) (hg s i x h)
    have e : i + (x :: l).length = i + 1 + l.length := by simp; omega
    rw [e]; exact this
theorem wo_facts' (m : Nat) (l : List Int) : (wo m l).length ≤ m ∧ (∀ c ∈ wo m l, 0 ≤ c ∧ c < m ∧ c ∉ l) ∧ (wo m l).Nodup := by
  have := foldI_ind (β := Nat) (fun i (q : List Int) => q.length ≤ i ∧ (∀ c ∈ q, 0 ≤ c ∧ c < i ∧ c ∉ l) ∧ q.Nodup) (woG l) (fun s i x ⟨h1, h2, h3⟩ => by
    simp only [woG]
    split
    · exact ⟨by omega, fun c hc => by have := h2 c hc; exact ⟨this.1, by omega, this.2.2⟩, h3⟩
    · rename_i hni
      refine ⟨by simp; omega, fun c hc => ?_, ?_⟩
      · rcases List.mem_append.1 hc with hc | hc
        · have := h2 c hc; exact ⟨this.1, by omega, this.2.2⟩
        · simp at hc; subst hc; exact ⟨by omega, by omega, hni⟩
      · refine List.nodup_append.2 ⟨h3, by simp, fun a ha b hb => ?_⟩
        simp at hb
        have := h2 a ha
        omega) (List.range m) 0 [] ⟨by simp, by simp, by simp⟩
  simpa [wo] using this
theorem wo_facts (m : Nat) (l : List Int) : (wo m l).length ≤ m ∧ (∀ c ∈ wo m l, 0 ≤ c ∧ c < m) ∧ (wo m l).Nodup :=
  ⟨(wo_facts' m l).1, fun c hc => ⟨((wo_facts' m l).2.1 c hc).1, ((wo_facts' m l).2.1 c hc).2.1⟩, (wo_facts' m l).2.2⟩
theorem wo_len {m : Nat} {l : List Int} {x : Int} (hx : x ∈ l) (h0 : 0 ≤ x) (h1 : x < m) : (wo m l).length + 1 ≤ m := by
  have f := wo_facts' m l
  have hn : (x :: wo m l).Nodup := List.nodup_cons.2 ⟨fun h => (f.2.1 x h).2.2 hx, f.2.2⟩
  have := nodup_len (m := (List.range m).map fun (i : Nat) => (i : Int)) hn fun y hy => by
    have hy' : 0 ≤ y ∧ y < m := by
      rcases List.mem_cons.1 hy with rfl | hy
      · exact ⟨h0, h1⟩
      · exact ⟨(f.2.1 y hy).1, (f.2.1 y hy).2.1⟩
    exact List.mem_map.2 ⟨y.toNat, List.mem_range.2 (by omega), by omega⟩
  simpa using this
theorem wo_step {l q : List Int} {i x : Nat} (h : q.length ≤ i) : (woG l q i x).length ≤ i + 1 := by
  simp only [woG]; split
  · omega
  · simp; omega
theorem p_others (n : TNet) (m : Nat) (hm : n.1 = m) (hm5 : m ≤ 5) (l : List Int) (hl : l.length ≤ BB) : e_impl_others (n, l, ()) = some (wo m l) := by
  have hd : (List.range m).length = m := by simp
  simp only [e_impl_others, r_impl_others, hm]
  have a := iter_fold (R := List Int) (body := r_impl_others_L0 e_slices_Contains_int N0) (List.range m) (fun (q : List Int) i => (l, q, (m : Int), i, ())) (fun i q => q.length ≤ i) (woG l)
    (fun q i x kc ke hq hx hi => by
      rw [hd] at hi
      refine ⟨?_, wo_step hq⟩
      have d1 : decide ((i : Int) < (m : Int)) = true := by rw [decide_eq_true_eq]; omega
      simp only [r_impl_others_L0, d1, cond_true, p_ContainsI l (i : Int) hl, Option.bind_some, wr_succ hi (show m ≤ 9223372036854775807 by omega), woG]
      by_cases h : (i : Int) ∈ l
      · simp only [h, decide_true, Bool.not_true, cond_false, if_true]
      · have b : Nat.ble (q.length + List.length ((i : Int) :: ([] : List Int))) 17179869184 = true := ble_true (by simp; omega)
        simp only [h, decide_false, Bool.not_false, cond_true, if_false, b])
    (fun q kc ke _ => by
      have d2 : decide ((((List.range m).length : Nat) : Int) < (m : Int)) = false := by rw [decide_eq_false_iff_not, hd]; omega
      simp only [r_impl_others_L0, d2, cond_false]) (N := N0) (by have := N0_big; omega) [] (by simp) (fun s1 => some s1.2.1)
  exact a.1
theorem s_Without (m : Nat) (hm5 : m ≤ 5) (l : List Int) (hl : l.length ≤ BB) : e_spec_l04Without ((m : Int), l, ()) = some (wo m l) := by
  have hd : (List.range m).length = m := by simp
  simp only [e_spec_l04Without, r_spec_l04Without]
  have a := iter_fold (R := List Int) (body := r_spec_l04Without_L0 e_spec_l03Has N0) (List.range m) (fun (q : List Int) i => ((m : Int), l, q, i, ())) (fun i q => q.length ≤ i) (woG l)
    (fun q i x kc ke hq hx hi => by
      rw [hd] at hi
      refine ⟨?_, wo_step hq⟩
      have d1 : decide ((i : Int) < (m : Int)) = true := by rw [decide_eq_true_eq]; omega
      simp only [r_spec_l04Without_L0, d1, cond_true, p_Has l (i : Int) hl, Option.bind_some, wr_succ hi (show m ≤ 9223372036854775807 by omega), woG]
      by_cases h : (i : Int) ∈ l
      · simp only [h, decide_true, Bool.not_true, cond_false, if_true]
      · have b : Nat.ble (q.length + List.length ((i : Int) :: ([] : List Int))) 17179869184 = true := ble_true (by simp; omega)
        simp only [h, decide_false, Bool.not_false, cond_true, if_false, b])
    (fun q kc ke _ => by
      have d2 : decide ((((List.range m).length : Nat) : Int) < (m : Int)) = false := by rw [decide_eq_false_iff_not, hd]; omega
      simp only [r_spec_l04Without_L0, d2, cond_false]) (N := N0) (by have := N0_big; omega) [] (by simp) (fun s1 => some s1.2.2.1)
  exact a.1
structure Lk (n : TNet) (m : Nat) (L : List (List Int)) : Prop where
  hn : Sm.sm B1 n
  ok : netok n = true
  hm : n.1 = m
  m1 : 1 ≤ m
  m5 : m ≤ 5
  sc : 1 ≤ n.2.2.1 ∧ n.2.2.1 ≤ 1000
  lp : e_impl_LaplacianOf (n, ()) = some L
  ls : e_spec_LaplacianOf (n, ()) = some L
  tab : IsTab L m (lapF n.2.2.2)
  srt : Srt n.2.2.2
  inw : InW m n.2.2.2
  hw : ∀ e ∈ n.2.2.2, 1 ≤ e.2.2 ∧ e.2.2 ≤ 200
section
variable {n : TNet} {m : Nat} {L : List (List Int)}
theorem Lk.det_le (h : Lk n m L) (rows cols : List Int) : (detZ L (wo m rows) (wo m cols)).natAbs ≤ 18895680000000000 := by
  have f1 := wo_facts m rows
  have f2 := wo_facts m cols
  refine Nat.le_trans (det_lap h.srt h.inw h.m5 h.hw h.tab f1.2.1 f2.2.1 f2.2.2) ?_
  have hm5 := h.m5
  exact Nat.le_trans (Nat.pow_le_pow_right (by omega) (show (wo m rows).length ≤ 5 by omega)) (by decide)
theorem Lk.det_le4 (h : Lk n m L) (rows cols : List Int) {x : Int} (hx : x ∈ rows) (h0 : 0 ≤ x) (h1 : x < m) : (detZ L (wo m rows) (wo m cols)).natAbs ≤ 10497600000000 := by
  have f1 := wo_facts m rows
  have f2 := wo_facts m cols
  have f3 := wo_len hx h0 h1
  refine Nat.le_trans (det_lap h.srt h.inw h.m5 h.hw h.tab f1.2.1 f2.2.1 f2.2.2) ?_
  have hm5 := h.m5
  exact Nat.le_trans (Nat.pow_le_pow_right (by omega) (show (wo m rows).length ≤ 4 by omega)) (by decide)
theorem Lk.left (h : Lk n m L) (rows cols : List Int) (hr : rows.length ≤ BB) (hc : cols.length ≤ BB) :
    e_impl_left (n, rows, cols, ()) = some (detZ L (wo m rows) (wo m cols)) ∧ e_spec_l04Minor (n, rows, cols, ()) = some (detZ L (wo m rows) (wo m cols)) := by
  have f1 := wo_facts m rows
  have f2 := wo_facts m cols
  have hm5 := h.m5
  have b := h.det_le rows cols
  have w : wr (detZ L (wo m rows) (wo m cols)) = detZ L (wo m rows) (wo m cols) := wr_id (by omega) (by omega)
  have hE := tab_ent h.tab f1.2.1 f2.2.1
  constructor
  · simp only [e_impl_left, r_impl_left, h.lp, p_others n m h.hm hm5 rows hr, p_others n m h.hm hm5 cols hc, Option.bind_some, p_det0 L _ _ (show (wo m rows).length ≤ 1073741824 by omega) (show (wo m cols).length ≤ 1073741824 by omega) hE, w]
  · simp only [e_spec_l04Minor, r_spec_l04Minor, h.ls, h.hm, s_Without m hm5 rows hr, s_Without m hm5 cols hc, Option.bind_some, s_det0 L _ _ (show (wo m rows).length ≤ 1073741824 by omega) (show (wo m cols).length ≤ 1073741824 by omega) hE, w]
theorem BB_ge : 2 ≤ BB := by simp only [BB]; omega
end
theorem node_both (n : TNet) (hn : Sm.sm B1 n) (hok : netok n = true) (a : Int) : e_impl_isNode (n, a, ()) = some (decide (0 ≤ a) && decide (a < n.1)) ∧ e_spec_l01In (a, 0, wr (n.1 - 1), ()) = some (decide (0 ≤ a) && decide (a < n.1)) := by
  obtain ⟨m, hm, hm1, hm5, hin, he1, he2⟩ := netok_facts hok
  have w : wr (n.1 - 1) = n.1 - 1 := wr_id (by omega) (by omega)
  constructor
  · simp only [e_impl_isNode, r_impl_isNode]
    by_cases h : 0 ≤ a
    · simp [h]
    · simp [h]
  · have e : decide (a ≤ n.1 - 1) = decide (a < n.1) := by rw [decide_eq_decide]; omega
    simp only [w, p_l01In, n_l01In, e]
theorem mul_bd {s x : Int} {k : Nat} (hs : 1 ≤ s ∧ s ≤ 1000) (hx : x.natAbs ≤ k) : (s * x).natAbs ≤ 1000 * k := by
  rw [Int.natAbs_mul]
  exact Nat.mul_le_mul (by omega) hx
end Go.Sx.R
namespace Go.Sx.R
open Go Go.Sx
theorem foldI_gcd : ∀ (l : List W3) (i g : Nat), foldI (fun (g : Nat) _ (x : W3) => Nat.gcd g x.2.2.natAbs) l i g = gcdW g l
  | [], _, _ => rfl
  | x :: l, i, g => by simp only [foldI, foldI_gcd l (i + 1), gcdW_cons]
theorem foldI_push {β γ : Type} (f : β → γ) : ∀ (l : List β) (i : Nat) (q : List γ), foldI (fun q _ x => q ++ [f x]) l i q = q ++ l.map f
  | [], _, q => by simp [foldI]
  | x :: l, i, q => by simp only [foldI, foldI_push f l (i + 1), List.map_cons, List.append_assoc, List.singleton_append]
theorem s_Canon (n : TNet) (h : Fine n) : e_spec_l03Canon (n, ()) = some (canon n) := by
  have s1 := h.s1
  have s2 := h.s2
  have hlen : n.2.2.2.length ≤ 1073741824 := h.sm.2.2.2.1
  obtain ⟨sN, hsN⟩ : ∃ s : Nat, n.2.2.1 = s := ⟨n.2.2.1.toNat, by omega⟩
  have a := iter_fold (R := TNet) (body := r_spec_l03Canon_L0 e_spec_GcdOf N0) n.2.2.2 (fun (st : Nat) i => (n, (0, 0, 0, []), (st : Int), n.2.2.2, (n.2.2.2.length : Int), i, ())) (fun _ st => 0 < st ∧ st ≤ 1000000000000000) (fun st _ x => Nat.gcd st x.2.2.natAbs)
    (fun st i x kc ke ⟨p1, p2⟩ hx hi => by
      have hw := h.w x (List.mem_of_getElem? hx)
      refine ⟨?_, Nat.gcd_pos_of_pos_left _ p1, Nat.le_trans (Nat.gcd_le_left _ p1) p2⟩
      obtain ⟨k, hk⟩ : ∃ k : Nat, x.2.2 = k := ⟨x.2.2.toNat, by omega⟩
      have hg : e_spec_GcdOf ((st : Int), x.2.2, ()) = some ((Nat.gcd st x.2.2.natAbs : Nat) : Int) := by rw [hk, Int.natAbs_natCast]; exact s_Gcd st k (by omega) (by omega)
      simp only [r_spec_l03Canon_L0, lt_len, hi, decide_true, cond_true, getI_nat, hx, Option.bind_some, hg, wr_succ hi (show n.2.2.2.length ≤ 9223372036854775807 by omega)])
    (fun st kc ke _ => by simp only [r_spec_l03Canon_L0, not_lt_self, cond_false]) (N := N0) (by have := N0_big; omega) sN ⟨by omega, by omega⟩
  have hgg : foldI (fun (st : Nat) _ (x : W3) => Nat.gcd st x.2.2.natAbs) n.2.2.2 0 sN = gN n := by rw [foldI_gcd, gN, hsN, Int.natAbs_natCast]
  rw [hgg] at a
  have hgp : 0 < gN n := h.g_pos
  have dz : decide ((gN n : Int) = 0) = false := by rw [decide_eq_false_iff_not]; omega
  have hsd := div_bd (a := n.2.2.1) (g := gN n) (by omega)
  have ws : wr (Int.tdiv n.2.2.1 (gN n : Int)) = n.2.2.1 / (gN n : Int) := by rw [tdiv_pos _ (by omega)]; exact wr_id (by omega) (by omega)
  have b := iter_fold (R := TNet) (body := r_spec_l03Canon_L2 e_spec_GcdOf N0) n.2.2.2 (fun (q : List W3) i => ((0, 0, 0, []), (gN n : Int), (n.1, n.2.1, n.2.2.1 / (gN n : Int), q), n.2.2.2, (n.2.2.2.length : Int), i, ())) (fun i q => q.length = i) (fun q _ x => q ++ [divW (gN n) x])
    (fun q i x kc ke hq hx hi => by
      refine ⟨?_, by simp [hq]⟩
      have hw := h.w x (List.mem_of_getElem? hx)
      have hxd := div_bd (a := x.2.2) (g := gN n) (by omega)
      have wx : wr (Int.tdiv x.2.2 (gN n : Int)) = x.2.2 / (gN n : Int) := by rw [tdiv_pos _ (by omega)]; exact wr_id (by omega) (by omega)
      have bl : ∀ v : W3, Nat.ble (q.length + List.length (v :: ([] : List W3))) 17179869184 = true := fun v => ble_true (by simp; omega)
      simp only [r_spec_l03Canon_L2, lt_len, hi, decide_true, cond_true, getI_nat, hx, Option.bind_some, dz, cond_false, wx, bl, wr_succ hi (show n.2.2.2.length ≤ 9223372036854775807 by omega), divW])
    (fun q kc ke _ => by simp only [r_spec_l03Canon_L2, not_lt_self, cond_false]) (N := N0) (by have := N0_big; omega) [] rfl (fun s2 => some s2.2.2.1)
  have hn0 : (n.2.2.1 : Int) = (sN : Int) := hsN
  simp only [e_spec_l03Canon, r_spec_l03Canon]
  have a1 := (a (fun s1 => cond (decide (s1.2.2.1 = (0 : Int))) none (iterK (r_spec_l03Canon_L2 e_spec_GcdOf N0) N0 (s1.2.1, s1.2.2.1, (s1.1.1, s1.1.2.1, wr (Int.tdiv s1.1.2.2.1 s1.2.2.1), ([] : List W3)), s1.1.2.2.2, (s1.1.2.2.2.length : Int), 0, ()) fun s2 => some s2.2.2.1))).1
  rw [← hn0] at a1
  rw [a1]
  simp only [dz, cond_false, ws]
  rw [b.1]
  simp only [foldI_push (divW (gN n)), List.nil_append, canon]
theorem s_Reduced (ends scale : Int) (m : Nat) (hm5 : m ≤ 5) {f : Nat → Nat → Int} {l : List W3} (hl : Acc m f l) (hs : 1 ≤ scale ∧ scale ≤ 1000000000000000) (he : Sm.sm B1 ends) (hf : ∀ i j, i < j → j < m → 0 ≤ f i j ∧ f i j ≤ 1000000000000000) :
    ∃ l', WiresOf f m (fun _ _ => True) l' ∧ Fine ((m : Int), ends, scale, l') ∧ e_spec_l06Reduced (((m : Int), ends, scale, l), ()) = some (cond (netok (canon ((m : Int), ends, scale, l'))) (canon ((m : Int), ends, scale, l'), true) ((0, 0, 0, []), false)) := by
  have hw := hl.wires
  have hF := hw.fine hm5 hs he hf
  have hlen := hl.len
  have hm25 : m * m ≤ 25 := Nat.mul_le_mul hm5 hm5
  have hsm : Sm.sm B1 l := ⟨by simp only [B1]; omega, fun x hx => by
    obtain ⟨a, b, h1, h2, rfl⟩ := hl.val x hx
    have := hf a b h1 h2
    exact ⟨(⟨by omega, by omega⟩ : Sm.sm B1 (a : Int)), (⟨by omega, by omega⟩ : Sm.sm B1 (b : Int)), (⟨by omega, by omega⟩ : Sm.sm B1 (f a b))⟩⟩
  refine ⟨_, hw, hF, ?_⟩
  simp only [e_spec_l06Reduced, r_spec_l06Reduced, s_Drop l hsm, s_Canon _ hF, s_NetOk _ hF.canon_sm, Option.bind_some]
  cases netok (canon ((m : Int), ends, scale, l.filter fun x => !decide (x.2.2 = 0))) <;> rfl
def putG (A B : Int) (st : Int × List W3) (_ : Nat) (e : W3) : Int × List W3 := if keyB A B e = true then (st.1 + e.2.2, st.2) else (st.1, st.2 ++ [e])
theorem foldI_put (A B : Int) : ∀ (l : List W3) (i : Nat) (st : Int × List W3), foldI (putG A B) l i st = (st.1 + keyS A B l, st.2 ++ l.filter fun e => !keyB A B e)
  | [], _, st => by simp [foldI, keyS]
  | x :: l, i, st => by
    simp only [foldI, foldI_put A B l (i + 1), putG, keyS_cons, List.filter_cons]
    by_cases h : keyB A B x = true
    · simp [h]; omega
    · simp [h]
def insG (x : W3) (st : List W3 × Bool) (_ : Nat) (e : W3) : List W3 × Bool := if st.2 = false ∧ lex x e = true then (st.1 ++ [x] ++ [e], true) else (st.1 ++ [e], st.2)
theorem foldI_ins1 (x : W3) : ∀ (l : List W3) (i : Nat) (out : List W3), foldI (insG x) l i (out, true) = (out ++ l, true)
  | [], _, out => by simp [foldI]
  | e :: l, i, out => by simp [foldI, insG, foldI_ins1 x l (i + 1)]
theorem foldI_ins0 (x : W3) : ∀ (l : List W3) (i : Nat) (out : List W3), (if (foldI (insG x) l i (out, false)).2 = true then (foldI (insG x) l i (out, false)).1 else (foldI (insG x) l i (out, false)).1 ++ [x]) = out ++ ins x l
  | [], _, out => by simp [foldI, ins]
  | e :: l, i, out => by
    simp only [foldI, insG, ins]
    by_cases h : lex x e = true
    · simp [h, foldI_ins1]
    · simp only [h, Bool.false_eq_true, and_false, if_false]
      have := foldI_ins0 x l (i + 1) (out ++ [e])
      rw [this]; simp
theorem foldI_inslen (x : W3) (l : List W3) : (foldI (insG x) l 0 (([] : List W3), false)).1.length ≤ l.length + 1 := by
  have := foldI_ind (fun i (st : List W3 × Bool) => st.1.length ≤ i + (if st.2 = true then 1 else 0)) (insG x) (fun s i e h => by
    simp only [insG]
    split
    · rename_i hc
      have h2 := hc.1
      rw [h2] at h; simp at h ⊢; omega
    · simp; omega) l 0 ([], false) (by simp)
  simp only [Nat.zero_add] at this
  split at this <;> omega
theorem s_Put (l : List W3) (A B w : Int) (hAB : A < B) (hlen : l.length ≤ 1000) (hl : ∀ e ∈ l, 0 ≤ e.2.2 ∧ e.2.2 ≤ 1000000000000) (hw : 0 ≤ w ∧ w ≤ 1000000000000) : e_spec_l03Put (l, A, B, w, true, ()) = some (putL l A B w) := by
  have e1 : (@ite Int (B < A) (Int.decLt B A) B A) = A := if_neg (by omega)
  have e2 : (@ite Int (B > A) (Int.decLt A B) B A) = B := if_pos hAB
  simp only [e_spec_l03Put, r_spec_l03Put, e1, e2]
  have a := iter_fold (R := List W3) (body := r_spec_l03Put_L0 N0) l (fun (st : Int × List W3) i => (true, st.2, (A, B, st.1), false, l, (l.length : Int), i, ())) (fun i st => 0 ≤ st.1 ∧ st.1 ≤ (i + 1 : Nat) * 1000000000000 ∧ st.2.length ≤ i) (putG A B)
    (fun st i x kc ke ⟨p1, p2, p3⟩ hx hi => by
      have hxw := hl x (List.mem_of_getElem? hx)
      have hb : wr (st.1 + x.2.2) = st.1 + x.2.2 := wr_id (by omega) (by omega)
      have bl : ∀ v : W3, Nat.ble (st.2.length + List.length (v :: ([] : List W3))) 17179869184 = true := fun v => ble_true (by simp; omega)
      refine ⟨?_, ?_⟩
      · simp only [r_spec_l03Put_L0, lt_len, hi, decide_true, cond_true, getI_nat, hx, Option.bind_some, hb, bl, wr_succ hi (show l.length ≤ 9223372036854775807 by omega), putG, keyB]
        by_cases h1 : x.1 = A
        · by_cases h2 : x.2.1 = B
          · simp [h1, h2]
          · simp [h1, h2]
        · simp [h1]
      · simp only [putG]
        split
        · exact ⟨by simp only; omega, by simp only; omega, by simp only; omega⟩
        · exact ⟨p1, by simp only; omega, by simp; omega⟩)
    (fun st kc ke _ => by simp only [r_spec_l03Put_L0, not_lt_self, cond_false]) (N := N0) (by have := N0_big; omega) (w, []) ⟨by omega, by simp; omega, by simp⟩
  rw [(a _).1, foldI_put]
  simp only [List.nil_append]
  have hlf : (l.filter fun e => !keyB A B e).length ≤ 1000 := Nat.le_trans (List.length_filter_le _ _) hlen
  generalize hr : (l.filter fun e => !keyB A B e) = r at hlf
  generalize hX : ((A, B, w + keyS A B l) : W3) = X
  have b := iter_fold (R := List W3) (body := r_spec_l03Put_L2 N0) r (fun (st : List W3 × Bool) i => (st.1, X, st.2, r, (r.length : Int), i, ())) (fun i st => st.1.length ≤ i + 1 ∧ (st.2 = false → st.1.length ≤ i)) (insG X)
    (fun st i x kc ke ⟨p1, p2⟩ hx hi => by
      have bl : ∀ v : W3, Nat.ble (st.1.length + List.length (v :: ([] : List W3))) 17179869184 = true := fun v => ble_true (by simp; omega)
      have bl2 : ∀ u v : W3, Nat.ble ((st.1 ++ [u]).length + List.length (v :: ([] : List W3))) 17179869184 = true := fun u v => ble_true (by simp; omega)
      refine ⟨?_, ?_⟩
      · simp only [r_spec_l03Put_L2, lt_len, hi, decide_true, cond_true, getI_nat, hx, Option.bind_some, bl, bl2, wr_succ hi (show r.length ≤ 9223372036854775807 by omega), insG]
        cases h0 : st.2 with
        | true => simp
        | false =>
          simp only [Bool.not_false, cond_true, true_and]
          by_cases h1 : X.1 < x.1
          · have hx1 : lex X x = true := by rw [lex_iff]; omega
            have d : decide (x.1 > X.1) = true := by rw [decide_eq_true_eq]; omega
            simp only [hx1, d, cond_true, if_true]
          · have d : decide (x.1 > X.1) = false := by rw [decide_eq_false_iff_not]; omega
            simp only [d, cond_false]
            by_cases h2 : x.1 = X.1
            · simp only [h2, decide_true, cond_true]
              by_cases h3 : x.2.1 > X.2.1
              · have hx1 : lex X x = true := by rw [lex_iff]; omega
                simp only [h3, hx1, decide_true, cond_true, if_true]
              · have hx1 : lex X x = false := by
                  have : ¬ lex X x = true := by rw [lex_iff]; omega
                  simpa using this
                simp only [h3, hx1, decide_false, cond_false, Bool.false_eq_true, if_false]
            · have hx1 : lex X x = false := by
                have : ¬ lex X x = true := by rw [lex_iff]; omega
                simpa using this
              simp only [h2, hx1, decide_false, cond_false, Bool.false_eq_true, if_false]
      · simp only [insG]
        split
        · rename_i hc
          have := p2 hc.1
          exact ⟨by simp; omega, by simp⟩
        · exact ⟨by simp; omega, fun hc => by have := p2 hc; simp; omega⟩)
    (fun st kc ke _ => by simp only [r_spec_l03Put_L2, not_lt_self, cond_false]) (N := N0) (by have := N0_big; omega) ([], false) ⟨by simp, fun _ => by simp⟩
  rw [(b _).1]
  have hpl : putL l A B w = ins X r := by rw [putL, hr, hX]
  have key := foldI_ins0 X r 0 []
  have bnd := foldI_inslen X r
  rw [List.nil_append] at key
  rw [hpl, ← key]
  have bl : Nat.ble ((foldI (insG X) r 0 (([] : List W3), false)).1.length + List.length (X :: ([] : List W3))) 17179869184 = true := ble_true (by simp; omega)
  cases h0 : (foldI (insG X) r 0 (([] : List W3), false)).2 with
  | true => simp
  | false => simp only [Bool.not_false, cond_true, bl, Bool.false_eq_true, if_false]
end Go.Sx.R
namespace Go.Sx.R
open Go Go.Sx
abbrev CurV := Option (Value × Int × Int)
def CurGood (A : Option (Nat × Obj)) (y : CurV) : Prop := ∃ v i h, y = some (v, i, h) ∧ CodeOk A v ∧ 0 ≤ i ∧ i ≤ 9223372036854775807
theorem and255 (x : Int) : 0 ≤ wr (((BitVec.toNat ((BitVec.ofInt (@Go.IntKind.bits @Go.IntKind.i64) x) &&& (BitVec.ofInt (@Go.IntKind.bits @Go.IntKind.i64) (255 : Int)))) : Nat) : Int) ∧
    wr (((BitVec.toNat ((BitVec.ofInt (@Go.IntKind.bits @Go.IntKind.i64) x) &&& (BitVec.ofInt (@Go.IntKind.bits @Go.IntKind.i64) (255 : Int)))) : Nat) : Int) ≤ 255 := by
  have h : (BitVec.toNat ((BitVec.ofInt (@Go.IntKind.bits @Go.IntKind.i64) x) &&& (BitVec.ofInt (@Go.IntKind.bits @Go.IntKind.i64) (255 : Int)))) ≤ 255 := by
    rw [BitVec.toNat_and]
    have e : (BitVec.ofInt (@Go.IntKind.bits @Go.IntKind.i64) (255 : Int)).toNat = 255 := by decide
    rw [e]
    exact Nat.and_le_right
  rw [wr_id (by omega) (by omega)]
  omega
theorem byte_ok {A : Option (Nat × Obj)} {y : CurV} (h : CurGood A y) : ∃ y' x, e_spec_l01Byte A y () = some (y', x) ∧ CurGood A y' ∧ 0 ≤ x ∧ x ≤ 255 := by
  obtain ⟨v, i, k, rfl, hc, h0, h1⟩ := h
  obtain ⟨p, n, c, rfl, hnc, hn, hrd⟩ := id hc
  simp only [e_spec_l01Byte, Option.bind_some, r_spec_l01Byte, rawLen]
  by_cases hi : i < (n : Int)
  · obtain ⟨x, hx, hx0, hx1⟩ := hrd i.toNat (by omega)
    have e : ((i.toNat : Nat) : Int) = i := by omega
    rw [e] at hx
    simp only [hi, decide_true, cond_true, hx, Option.bind_some]
    have hw : wr (i + 1) = i + 1 := wr_id (by omega) (by omega)
    exact ⟨_, _, rfl, ⟨_, _, _, rfl, hc, by omega, by omega⟩, (and255 _).1, (and255 _).2⟩
  · simp only [hi, decide_false, cond_false]
    exact ⟨_, _, rfl, ⟨_, _, _, rfl, hc, h0, h1⟩, (and255 _).1, (and255 _).2⟩
theorem below_ok {A : Option (Nat × Obj)} {y : CurV} (h : CurGood A y) {n : Int} (h1 : 1 ≤ n) (h2 : n ≤ 256) : ∃ y' x, e_spec_l01Below A y (n, ()) = some (y', x) ∧ CurGood A y' ∧ 0 ≤ x ∧ x < n := by
  obtain ⟨y', x, hb, hg, hx0, hx1⟩ := byte_ok h
  have d1 : decide (n ≤ 0) = false := by rw [decide_eq_false_iff_not]; omega
  have d2 : decide (n ≤ 256) = true := by rw [decide_eq_true_eq]; omega
  have d3 : decide (n = 0) = false := by rw [decide_eq_false_iff_not]; omega
  simp only [e_spec_l01Below, r_spec_l01Below, d1, d2, d3, cond_true, cond_false, hb, Option.bind_some]
  refine ⟨_, _, rfl, hg, ?_, ?_⟩
  · rw [Int.tmod_eq_emod_of_nonneg hx0]; exact Int.emod_nonneg _ (by omega)
  · rw [Int.tmod_eq_emod_of_nonneg hx0]; exact Int.emod_lt_of_pos _ (by omega)
theorem new_ok {A : Option (Nat × Obj)} {v : Value} (hc : CodeOk A v) : ∃ y, e_spec_l01New A (v, ()) = some y ∧ CurGood A y := by
  obtain ⟨p, n, c, rfl, hnc, hn, hrd⟩ := id hc
  simp only [e_spec_l01New, r_spec_l01New, rawLen, Option.bind_some]
  refine iter_while (Q := fun (r : Option CurV) => ∃ y, r = some y ∧ CurGood A y) (p := fun s => s.1 = Value.slice p n c ∧ 0 ≤ s.2.2.1 ∧ s.2.2.1 ≤ 4000) (mu := fun s => (4001 - s.2.2.1).toNat) ?_ N0 _ ⟨rfl, by simp, by simp⟩ (by have := N0_big; show (4001 - (0 : Int)).toNat < N0; omega)
  rintro ⟨v, h, i, u⟩ kc ⟨h1, h2, h3⟩ hk
  simp only at h1 h2 h3
  subst h1
  have fin : ∃ y, (some (some (Value.slice p n c, (0 : Int), h)) : Option CurV) = some y ∧ CurGood A y := ⟨_, rfl, _, _, _, rfl, hc, by omega, by omega⟩
  simp only [r_spec_l01New_L0, rawLen, Option.bind_some]
  by_cases hi : i < (n : Int)
  · simp only [hi, decide_true, cond_true]
    by_cases hi2 : i < 4000
    · obtain ⟨x, hx, _⟩ := hrd i.toNat (by omega)
      have e : ((i.toNat : Nat) : Int) = i := by omega
      rw [e] at hx
      have hw : wr (i + 1) = i + 1 := wr_id (by omega) (by omega)
      simp only [hi2, decide_true, cond_true, hx, Option.bind_some, hw]
      exact hk _ ⟨rfl, by show (0 : Int) ≤ i + 1; omega, by show i + 1 ≤ 4000; omega⟩ (by show (4001 - (i + 1)).toNat < (4001 - i).toNat; omega)
    · simp only [hi2, decide_false, cond_false]; exact fin
  · simp only [hi, decide_false, cond_false]; exact fin
theorem new18_ok {A : Option (Nat × Obj)} {v : Value} (hc : CodeOk A v) {n : Int} (hn : n ≤ 1000000) : ∃ y, e_spec_l18New A (v, n, ()) = some y ∧ CurGood A y := by
  obtain ⟨y0, e0, g0⟩ := new_ok hc
  simp only [e_spec_l18New, r_spec_l18New, e0, Option.bind_some]
  refine iter_while (Q := fun (r : Option CurV) => ∃ y, r = some y ∧ CurGood A y) (p := fun s => s.1 = n ∧ CurGood A s.2.1 ∧ 0 ≤ s.2.2.1 ∧ s.2.2.1 ≤ 1000000) (mu := fun s => (1000001 - s.2.2.1).toNat) ?_ N0 _ ⟨rfl, g0, by simp, by simp⟩ (by have := N0_big; show (1000001 - (0 : Int)).toNat < N0; omega)
  rintro ⟨m, y, i, u⟩ kc ⟨h1, h2, h3, h4⟩ hk
  simp only at h1 h2 h3 h4
  subst h1
  simp only [r_spec_l18New_L0]
  by_cases hi : i < m
  · obtain ⟨y', x, hb, hg, _⟩ := byte_ok h2
    have hw : wr (i + 1) = i + 1 := wr_id (by omega) (by omega)
    simp only [hi, decide_true, cond_true, hb, Option.bind_some, hw]
    exact hk _ ⟨rfl, hg, by show (0 : Int) ≤ i + 1; omega, by show i + 1 ≤ 1000000; omega⟩ (by show (1000001 - (i + 1)).toNat < (1000001 - i).toNat; omega)
  · simp only [hi, decide_false, cond_false]
    exact ⟨_, rfl, h2⟩
def setL (l : List W3) (A B w : Int) : List W3 := ins (A, B, w) (l.filter fun e => !keyB A B e)
def dropG (A B : Int) (st : List W3) (_ : Nat) (e : W3) : List W3 := if keyB A B e = true then st else st ++ [e]
theorem foldI_drop (A B : Int) : ∀ (l : List W3) (i : Nat) (st : List W3), foldI (dropG A B) l i st = st ++ l.filter fun e => !keyB A B e
  | [], _, st => by simp [foldI]
  | x :: l, i, st => by
    simp only [foldI, foldI_drop A B l (i + 1), dropG, List.filter_cons]
    by_cases h : keyB A B x = true
    · simp [h]
    · simp [h]
def loI (a b : Int) : Int := if b < a then b else a
def hiI (a b : Int) : Int := if b > a then b else a
theorem lo_hi {a b : Int} (h : a ≠ b) : loI a b < hiI a b := by unfold loI hiI; split <;> split <;> omega
theorem s_PutR (l : List W3) (a b w : Int) (hlen : l.length ≤ 1000) : e_spec_l03Put (l, a, b, w, false, ()) = some (setL l (loI a b) (hiI a b) w) := by
  simp only [e_spec_l03Put, r_spec_l03Put]
  have e1 : (@ite Int (b < a) (Int.decLt b a) b a) = loI a b := rfl
  have e2 : (@ite Int (b > a) (Int.decLt a b) b a) = hiI a b := rfl
  rw [e1, e2]
  generalize loI a b = A
  generalize hiI a b = B
  have a := iter_fold (R := List W3) (body := r_spec_l03Put_L0 N0) l (fun (st : List W3) i => (false, st, (A, B, w), false, l, (l.length : Int), i, ())) (fun i st => st.length ≤ i) (dropG A B)
    (fun st i x kc ke p3 hx hi => by
      have bl : ∀ v : W3, Nat.ble (st.length + List.length (v :: ([] : List W3))) 17179869184 = true := fun v => ble_true (by simp; omega)
      refine ⟨?_, ?_⟩
      · simp only [r_spec_l03Put_L0, lt_len, hi, decide_true, cond_true, cond_false, getI_nat, hx, Option.bind_some, bl, wr_succ hi (show l.length ≤ 9223372036854775807 by omega), dropG, keyB]
        by_cases h1 : x.1 = A
        · by_cases h2 : x.2.1 = B
          · simp [h1, h2]
          · simp [h1, h2]
        · simp [h1]
      · simp only [dropG]
        split
        · omega
        · simp; omega)
    (fun st kc ke _ => by simp only [r_spec_l03Put_L0, not_lt_self, cond_false]) (N := N0) (by have := N0_big; omega) [] (by simp)
  rw [(a _).1, foldI_drop]
  simp only [List.nil_append]
  have hlf : (l.filter fun e => !keyB A B e).length ≤ 1000 := Nat.le_trans (List.length_filter_le _ _) hlen
  generalize hr : (l.filter fun e => !keyB A B e) = r at hlf
  generalize hX : ((A, B, w) : W3) = X
  have b := iter_fold (R := List W3) (body := r_spec_l03Put_L2 N0) r (fun (st : List W3 × Bool) i => (st.1, X, st.2, r, (r.length : Int), i, ())) (fun i st => st.1.length ≤ i + 1 ∧ (st.2 = false → st.1.length ≤ i)) (insG X)
    (fun st i x kc ke ⟨p1, p2⟩ hx hi => by
      have bl : ∀ v : W3, Nat.ble (st.1.length + List.length (v :: ([] : List W3))) 17179869184 = true := fun v => ble_true (by simp; omega)
      have bl2 : ∀ u v : W3, Nat.ble ((st.1 ++ [u]).length + List.length (v :: ([] : List W3))) 17179869184 = true := fun u v => ble_true (by simp; omega)
      refine ⟨?_, ?_⟩
      · simp only [r_spec_l03Put_L2, lt_len, hi, decide_true, cond_true, getI_nat, hx, Option.bind_some, bl, bl2, wr_succ hi (show r.length ≤ 9223372036854775807 by omega), insG]
        cases h0 : st.2 with
        | true => simp
        | false =>
          simp only [Bool.not_false, cond_true, true_and]
          by_cases h1 : X.1 < x.1
          · have hx1 : lex X x = true := by rw [lex_iff]; omega
            have d : decide (x.1 > X.1) = true := by rw [decide_eq_true_eq]; omega
            simp only [hx1, d, cond_true, if_true]
          · have d : decide (x.1 > X.1) = false := by rw [decide_eq_false_iff_not]; omega
            simp only [d, cond_false]
            by_cases h2 : x.1 = X.1
            · simp only [h2, decide_true, cond_true]
              by_cases h3 : x.2.1 > X.2.1
              · have hx1 : lex X x = true := by rw [lex_iff]; omega
                simp only [h3, hx1, decide_true, cond_true, if_true]
              · have hx1 : lex X x = false := by
                  have : ¬ lex X x = true := by rw [lex_iff]; omega
                  simpa using this
                simp only [h3, hx1, decide_false, cond_false, Bool.false_eq_true, if_false]
            · have hx1 : lex X x = false := by
                have : ¬ lex X x = true := by rw [lex_iff]; omega
                simpa using this
              simp only [h2, hx1, decide_false, cond_false, Bool.false_eq_true, if_false]
      · simp only [insG]
        split
        · rename_i hc
          have := p2 hc.1
          exact ⟨by simp; omega, by simp⟩
        · exact ⟨by simp; omega, fun hc => by have := p2 hc; simp; omega⟩)
    (fun st kc ke _ => by simp only [r_spec_l03Put_L2, not_lt_self, cond_false]) (N := N0) (by have := N0_big; omega) ([], false) ⟨by simp, fun _ => by simp⟩
  rw [(b _).1]
  have hpl : setL l A B w = ins X r := by rw [setL, hr, hX]
  have key := foldI_ins0 X r 0 []
  have bnd := foldI_inslen X r
  rw [List.nil_append] at key
  rw [hpl, ← key]
  have bl : Nat.ble ((foldI (insG X) r 0 (([] : List W3), false)).1.length + List.length (X :: ([] : List W3))) 17179869184 = true := ble_true (by simp; omega)
  cases h0 : (foldI (insG X) r 0 (([] : List W3), false)).2 with
  | true => simp only [h0, Bool.not_true, cond_false, if_true]
  | false => simp only [h0, Bool.not_false, cond_true, bl, Bool.false_eq_true, if_false]
theorem ins_len (x : W3) : ∀ l : List W3, (ins x l).length = l.length + 1
  | [] => rfl
  | e :: l => by
    rw [ins]; split
    · rfl
    · simp [ins_len x l]
structure Wok (m : Nat) (K : Int) (l : List W3) : Prop where
  srt : Srt l
  inw : InW m l
  w : ∀ e ∈ l, 1 ≤ e.2.2 ∧ e.2.2 ≤ K
theorem Wok.nil {m : Nat} {K : Int} : Wok m K [] := ⟨List.Pairwise.nil, fun e h => by simp at h, fun e h => by simp at h⟩
theorem mem_setL {l : List W3} {A B w : Int} {e : W3} : e ∈ setL l A B w ↔ e = (A, B, w) ∨ (e ∈ l ∧ ¬ (e.1 = A ∧ e.2.1 = B)) := by
  rw [setL, mem_ins, List.mem_filter]
  have : (!keyB A B e) = true ↔ ¬ (e.1 = A ∧ e.2.1 = B) := by rw [← keyB_iff]; simp
  rw [this]
theorem Wok.set {m : Nat} {K : Int} {l : List W3} (h : Wok m K l) {A B w : Int} (h0 : 0 ≤ A) (h1 : A < B) (h2 : B < m) (hw : 1 ≤ w ∧ w ≤ K) : Wok m K (setL l A B w) := by
  refine ⟨?_, fun e he => ?_, fun e he => ?_⟩
  · rw [setL]
    refine srt_ins _ _ (List.Pairwise.filter _ h.srt) fun e he => ?_
    have := (List.mem_filter.1 he).2
    rw [← keyB_iff]; simpa using this
  · rcases mem_setL.1 he with rfl | ⟨he, _⟩
    · exact ⟨h0, h1, h2⟩
    · exact h.inw e he
  · rcases mem_setL.1 he with rfl | ⟨he, _⟩
    · exact hw
    · exact h.w e he
theorem setL_len (l : List W3) (A B w : Int) : (setL l A B w).length ≤ l.length + 1 := by
  rw [setL, ins_len]
  have := List.length_filter_le (fun e => !keyB A B e) l
  omega
theorem Rc.mono {l l' : List W3} (h : ∀ e ∈ l, ∃ e' ∈ l', e'.1 = e.1 ∧ e'.2.1 = e.2.1) : ∀ {v : Int}, Rc l v → Rc l' v := by
  intro v hv
  induction hv with
  | zero => exact .zero
  | ab he _ ih =>
    obtain ⟨e', h1, h2, h3⟩ := h _ he
    rw [← h3]; exact .ab h1 (by rw [h2]; exact ih)
  | ba he _ ih =>
    obtain ⟨e', h1, h2, h3⟩ := h _ he
    rw [← h2]; exact .ba h1 (by rw [h3]; exact ih)
theorem Rc.set {l : List W3} {A B w : Int} {v : Int} (h : Rc l v) : Rc (setL l A B w) v := by
  refine h.mono fun e he => ?_
  by_cases c : e.1 = A ∧ e.2.1 = B
  · exact ⟨(A, B, w), mem_setL.2 (.inl rfl), c.1.symm, c.2.symm⟩
  · exact ⟨e, mem_setL.2 (.inr ⟨he, c⟩), rfl, rfl⟩
structure Drawn (most K : Int) (n : TNet) : Prop where
  n2 : 2 ≤ n.1
  most : n.1 ≤ most
  e2 : 2 ≤ n.2.1
  en : n.2.1 ≤ n.1
  s1 : 1 ≤ n.2.2.1
  s3 : n.2.2.1 ≤ 3
  wok : Wok n.1.toNat K n.2.2.2
  con : ∀ v : Int, 0 ≤ v → v < n.1 → Rc n.2.2.2 v
  len : n.2.2.2.length ≤ 30
theorem lo_nn {a b : Int} (h0 : 0 ≤ a) (h1 : 0 ≤ b) : 0 ≤ loI a b := by unfold loI; split <;> omega
theorem hi_lt {a b : Int} {m : Int} (h0 : a < m) (h1 : b < m) : hiI a b < m := by unfold hiI; split <;> omega
def DrawQ (A : Option (Nat × Obj)) (most : Int) (r : Option (CurV × TNet)) : Prop := ∃ y' n, r = some (y', n) ∧ CurGood A y' ∧ Drawn most 6 n
theorem draw_tail {A : Option (Nat × Obj)} {most : Int} (hm5 : most ≤ 5) {Z : TNet} {N E S : Int} (hN2 : 2 ≤ N) (hNm : N ≤ most) (hE2 : 2 ≤ E) (hEN : E ≤ N) (hS1 : 1 ≤ S) (hS3 : S ≤ 3) {y : CurV} (hy : CurGood A y) {l : List W3} (hl : Wok N.toNat 6 l) (hc : ∀ v : Int, 0 ≤ v → v < N → Rc l v) (hlen : l.length ≤ 5)
    {k : Int} (hk0 : 0 ≤ k) (hk3 : k < 4) :
    DrawQ A most (iterK (r_spec_l03Draw_L2 (e_spec_l01Below A) e_spec_l03Put N0) N0 (y, Z, (N, E, S, l), k, ()) fun s6 => some (s6.1, s6.2.2.1)) := by
  refine iter_while (Q := DrawQ A most) (p := fun s => CurGood A s.1 ∧ s.2.2.1.1 = N ∧ s.2.2.1.2.1 = E ∧ s.2.2.1.2.2.1 = S ∧ Wok N.toNat 6 s.2.2.1.2.2.2 ∧ (∀ v : Int, 0 ≤ v → v < N → Rc s.2.2.1.2.2.2 v) ∧ 0 ≤ s.2.2.2.1 ∧ s.2.2.2.1 < 4 ∧ (s.2.2.1.2.2.2.length : Int) + s.2.2.2.1 ≤ 10) (mu := fun s => s.2.2.2.1.toNat) ?_ N0 _
    ⟨hy, rfl, rfl, rfl, hl, hc, hk0, hk3, by show (l.length : Int) + k ≤ 10; omega⟩ (by have := N0_big; show k.toNat < N0; omega)
  rintro ⟨y, Z', ⟨N', E', S', l⟩, k, u⟩ kc ⟨g, rfl, rfl, rfl, hl, hc, hk0, hk3, hlen⟩ hk
  simp only at g hl hc hk0 hk3 hlen hN2 hNm hE2 hEN hS1 hS3
  simp only [r_spec_l03Draw_L2]
  by_cases hk1 : k > 0
  · simp only [hk1, decide_true, cond_true]
    obtain ⟨y1, a, e1, g1, a0, a1⟩ := below_ok g (n := N') (by omega) (by omega)
    obtain ⟨y2, b, e2, g2, b0, b1⟩ := below_ok g1 (n := N') (by omega) (by omega)
    have hw : wr (k - 1) = k - 1 := wr_id (by omega) (by omega)
    simp only [e1, e2, Option.bind_some, hw]
    by_cases hab : a = b
    · simp only [hab, decide_true, Bool.not_true, cond_false]
      exact hk _ ⟨g2, rfl, rfl, rfl, hl, hc, by show (0 : Int) ≤ k - 1; omega, by show k - 1 < 4; omega, by show (l.length : Int) + (k - 1) ≤ 10; omega⟩ (by show (k - 1).toNat < k.toNat; omega)
    · obtain ⟨y3, x, e3, g3, x0, x1⟩ := below_ok g2 (n := 6) (by omega) (by omega)
      have hw2 : wr (1 + x) = 1 + x := wr_id (by omega) (by omega)
      simp only [hab, decide_false, Bool.not_false, cond_true, e3, Option.bind_some, hw2, s_PutR l a b (1 + x) (by omega)]
      have hset := hl.set (lo_nn a0 b0) (lo_hi hab) (by have := hi_lt a1 b1; omega) (w := 1 + x) ⟨by omega, by omega⟩
      have := setL_len l (loI a b) (hiI a b) (1 + x)
      exact hk _ ⟨g3, rfl, rfl, rfl, hset, fun v h0 h1 => (hc v h0 h1).set, by show (0 : Int) ≤ k - 1; omega, by show k - 1 < 4; omega, by show ((setL l (loI a b) (hiI a b) (1 + x)).length : Int) + (k - 1) ≤ 10; omega⟩ (by show (k - 1).toNat < k.toNat; omega)
  · simp only [hk1, decide_false, cond_false]
    exact ⟨_, _, rfl, g, ⟨hN2, hNm, hE2, hEN, hS1, hS3, hl, hc, by show l.length ≤ 30; omega⟩⟩
theorem draw_tree {A : Option (Nat × Obj)} {most : Int} (hm5 : most ≤ 5) {Z : TNet} {N E S : Int} (hN2 : 2 ≤ N) (hNm : N ≤ most) (hE2 : 2 ≤ E) (hEN : E ≤ N) (hS1 : 1 ≤ S) (hS3 : S ≤ 3) {y : CurV} (hy : CurGood A y) :
    DrawQ A most (iterK (r_spec_l03Draw_L0 (e_spec_l01Below A) e_spec_l03Put N0) N0 (y, Z, (N, E, S, ([] : List W3)), 1, ()) fun s4 => Option.bind (e_spec_l01Below A s4.1 (4, ())) fun x5 =>
      iterK (r_spec_l03Draw_L2 (e_spec_l01Below A) e_spec_l03Put N0) N0 (x5.1, s4.2.1, s4.2.2.1, x5.2, ()) fun s6 => some (s6.1, s6.2.2.1)) := by
  refine iter_while (Q := DrawQ A most) (p := fun s => CurGood A s.1 ∧ s.2.2.1.1 = N ∧ s.2.2.1.2.1 = E ∧ s.2.2.1.2.2.1 = S ∧ Wok N.toNat 6 s.2.2.1.2.2.2 ∧ 1 ≤ s.2.2.2.1 ∧ s.2.2.2.1 ≤ N ∧ (∀ v : Int, 0 ≤ v → v < s.2.2.2.1 → Rc s.2.2.1.2.2.2 v) ∧ (s.2.2.1.2.2.2.length : Int) + 1 ≤ s.2.2.2.1) (mu := fun s => (10 - s.2.2.2.1).toNat) ?_ N0 _
    ⟨hy, rfl, rfl, rfl, Wok.nil, by simp, by simp only; omega, fun v h0 h1 => by simp only at h1; have : v = 0 := by omega
                                                                                 subst this; exact .zero, by simp⟩ (by have := N0_big; show (10 - (1 : Int)).toNat < N0; omega)
  rintro ⟨y, Z', ⟨N', E', S', l⟩, k, u⟩ kc ⟨g, rfl, rfl, rfl, hl, hk0, hk3, hc, hlen⟩ hk
  simp only at g hl hc hk0 hk3 hlen hN2 hNm hE2 hEN hS1 hS3
  simp only [r_spec_l03Draw_L0]
  by_cases hk1 : k < N'
  · simp only [hk1, decide_true, cond_true]
    obtain ⟨y1, a, e1, g1, a0, a1⟩ := below_ok g (n := k) (by omega) (by omega)
    obtain ⟨y2, x, e2, g2, x0, x1⟩ := below_ok g1 (n := 6) (by omega) (by omega)
    have hw : wr (k + 1) = k + 1 := wr_id (by omega) (by omega)
    have hw2 : wr (1 + x) = 1 + x := wr_id (by omega) (by omega)
    have hlo : loI a k = a := by unfold loI; rw [if_neg (by omega)]
    have hhi : hiI a k = k := by unfold hiI; rw [if_pos (by omega)]
    simp only [e1, e2, Option.bind_some, hw, hw2, s_PutR l a k (1 + x) (by omega), hlo, hhi]
    have hset := hl.set a0 a1 (by omega) (w := 1 + x) ⟨by omega, by omega⟩
    have := setL_len l a k (1 + x)
    refine hk _ ⟨g2, rfl, rfl, rfl, hset, by show (1 : Int) ≤ k + 1; omega, by show k + 1 ≤ N'; omega, fun v h0 h1 => ?_, by show ((setL l a k (1 + x)).length : Int) + 1 ≤ k + 1; omega⟩ (by show (10 - (k + 1)).toNat < (10 - k).toNat; omega)
    have h1 : v < k + 1 := h1
    by_cases hv : v = k
    · subst hv
      exact Rc.ab (e := (a, v, 1 + x)) (mem_setL.2 (.inl rfl)) ((hc a a0 a1).set)
    · exact (hc v h0 (by omega)).set
  · simp only [hk1, decide_false, cond_false]
    obtain ⟨y1, a, e1, g1, a0, a1⟩ := below_ok g (n := 4) (by omega) (by omega)
    simp only [e1, Option.bind_some]
    exact draw_tail hm5 hN2 hNm hE2 hEN hS1 hS3 g1 hl (fun v h0 h1 => hc v h0 (by omega)) (by omega) a0 a1
theorem draw_ok {A : Option (Nat × Obj)} {y : CurV} (h : CurGood A y) {most : Int} (hm : 2 ≤ most) (hm5 : most ≤ 5) : ∃ y' n, e_spec_l03Draw A y (most, ()) = some (y', n) ∧ CurGood A y' ∧ Drawn most 6 n := by
  show DrawQ A most _
  have w0 : wr (most - 1) = most - 1 := wr_id (by omega) (by omega)
  obtain ⟨y1, a, e1, g1, a0, a1⟩ := below_ok h (n := most - 1) (by omega) (by omega)
  obtain ⟨y2, b, e2, g2, b0, b1⟩ := below_ok g1 (n := 3) (by omega) (by omega)
  have w1 : wr (2 + a) = 2 + a := wr_id (by omega) (by omega)
  have w2 : wr (1 + b) = 1 + b := wr_id (by omega) (by omega)
  simp only [e_spec_l03Draw, r_spec_l03Draw, w0, e1, e2, Option.bind_some, w1, w2]
  by_cases hN : 2 + a > 2
  · have w3 : wr (2 + a - 1) = 2 + a - 1 := wr_id (by omega) (by omega)
    obtain ⟨y3, c, e3, g3, c0, c1⟩ := below_ok g2 (n := 2 + a - 1) (by omega) (by omega)
    have w4 : wr (2 + c) = 2 + c := wr_id (by omega) (by omega)
    simp only [hN, decide_true, cond_true, w3, e3, Option.bind_some, w4]
    exact draw_tree hm5 (by omega) (by omega) (by omega) (by omega) (by omega) (by omega) g3
  · simp only [hN, decide_false, cond_false]
    exact draw_tree hm5 (by omega) (by omega) (by omega) (by omega) (by omega) (by omega) g2
end Go.Sx.R
namespace Go.Sx.R
open Go Go.Sx
theorem ext_of {β : Type} {a b : List β} (hl : a.length = b.length) (h : ∀ (j : Nat), j < a.length → a[j]? = b[j]?) : a = b := by
  apply List.ext_getElem?
  intro j
  by_cases hj : j < a.length
  · exact h j hj
  · rw [List.getElem?_eq_none (by omega), List.getElem?_eq_none (by omega)]
theorem ratio_ne {x y : Int × Int} : (intEq x.1 y.1 && intEq x.2 y.2) = decide (x = y) := by
  rw [Bool.eq_iff_iff]
  simp only [intEq, Bool.and_eq_true, decide_eq_true_eq]
  exact ⟨fun h => Prod.ext h.1 h.2, fun h => by rw [h]; exact ⟨rfl, rfl⟩⟩
theorem p_EqualR (a b : List (Int × Int)) (ha : a.length ≤ 1073741824) : e_slices_Equal_impl_Ratio (a, b, ()) = some (decide (a = b)) := by
  simp only [e_slices_Equal_impl_Ratio, r_slices_Equal_impl_Ratio]
  by_cases hl : a.length = b.length
  · have d : decide (((a.length : Nat) : Int) = ((b.length : Nat) : Int)) = true := by rw [decide_eq_true_eq]; omega
    simp only [d, Bool.not_true, cond_false]
    refine iter_rule (R := Bool) (fun o => o = some (decide (a = b))) a (fun (_ : Unit) i => (a, b, (a.length : Int), i, ())) (fun i _ => ∀ j, j < i → a[j]? = b[j]?) (fun st i x kc hp hx hi hk => ?_) (fun st kc hp => ?_) (by have := N0_big; omega) () (by simp)
    · obtain ⟨y, hy⟩ : ∃ y, b[i]? = some y := ⟨_, List.getElem?_eq_getElem (by omega)⟩
      simp only [r_slices_Equal_impl_Ratio_L0, lt_len, hi, decide_true, cond_true, getI_nat, hx, hy, Option.bind_some, ratio_ne, wr_succ hi (show a.length ≤ 9223372036854775807 by omega)]
      by_cases e : x = y
      · simp only [e, decide_true, Bool.not_true, cond_false]
        refine hk () fun j hj => ?_
        by_cases e2 : j = i
        · subst e2; rw [hx, hy, e]
        · exact hp j (by omega)
      · have : a ≠ b := fun h => e (by rw [h, hy] at hx; simpa using hx.symm)
        simp only [e, this, decide_false, Bool.not_false, cond_true]
    · simp only [r_slices_Equal_impl_Ratio_L0, not_lt_self, cond_false]
      have : a = b := ext_of hl hp
      simp [this]
  · have d : decide (((a.length : Nat) : Int) = ((b.length : Nat) : Int)) = false := by rw [decide_eq_false_iff_not]; omega
    have : a ≠ b := fun h => hl (by rw [h])
    simp only [d, Bool.not_false, cond_true, this, decide_false]
theorem p_Same (a b : List (List (Int × Int))) (ha : Sm.sm B1 a) : e_impl_SameResponse (a, b, ()) = some (decide (a = b)) := by
  have hla : a.length ≤ 1073741824 := ha.1
  simp only [e_impl_SameResponse, r_impl_SameResponse, e_slices_EqualFunc_Simpl_Ratio, r_slices_EqualFunc_Simpl_Ratio]
  by_cases hl : a.length = b.length
  · have d : decide (((a.length : Nat) : Int) = ((b.length : Nat) : Int)) = true := by rw [decide_eq_true_eq]; omega
    simp only [d, Bool.not_true, cond_false]
    have q := iter_rule (R := Bool) (body := r_slices_EqualFunc_Simpl_Ratio_L0 e_impl_SameResponse_1 N0) (ke := fun _ => some true) (fun o => o = some (decide (a = b))) a (fun (_ : Unit) i => (b, (), a, (a.length : Int), i, ())) (fun i _ => ∀ j, j < i → a[j]? = b[j]?) (fun st i x kc hp hx hi hk => ?_) (fun st kc hp => ?_) (N := N0) (by have := N0_big; omega) () (by simp)
    · rw [q]; rfl
    · obtain ⟨y, hy⟩ : ∃ y, b[i]? = some y := ⟨_, List.getElem?_eq_getElem (by omega)⟩
      have hxl : x.length ≤ 1073741824 := (ha.2 x (List.mem_of_getElem? hx)).1
      simp only [r_slices_EqualFunc_Simpl_Ratio_L0, lt_len, hi, decide_true, cond_true, getI_nat, hx, hy, Option.bind_some, e_impl_SameResponse_1, r_impl_SameResponse_1, p_EqualR x y hxl, wr_succ hi (show a.length ≤ 9223372036854775807 by omega)]
      by_cases e : x = y
      · simp only [e, decide_true, Bool.not_true, cond_false]
        refine hk () fun j hj => ?_
        by_cases e2 : j = i
        · subst e2; rw [hx, hy, e]
        · exact hp j (by omega)
      · have : a ≠ b := fun h => e (by rw [h, hy] at hx; simpa using hx.symm)
        simp only [e, this, decide_false, Bool.not_false, cond_true]
    · simp only [r_slices_EqualFunc_Simpl_Ratio_L0, not_lt_self, cond_false]
      have : a = b := ext_of hl hp
      simp [this]
  · have d : decide (((a.length : Nat) : Int) = ((b.length : Nat) : Int)) = false := by rw [decide_eq_false_iff_not]; omega
    have : a ≠ b := fun h => hl (by rw [h])
    simp only [d, Bool.not_false, cond_true, this, decide_false, Option.bind_some]
end Go.Sx.R
namespace Go.Sx.R
open Go Go.Sx
theorem netok_of {n : TNet} {m : Nat} (hm : n.1 = m) (h1 : 1 ≤ m) (h5 : m ≤ 5) (he : 1 ≤ n.2.1) (hem : n.2.1 ≤ n.1) (hs : 1 ≤ n.2.2.1) (hs2 : n.2.2.1 ≤ 1000) (hw : Wok m 200 n.2.2.2) (hc : ∀ v : Int, 0 ≤ v → v < n.1 → Rc n.2.2.2 v) : netok n = true := by
  have hh : hdrOk n = true := by
    simp only [hdrOk, Bool.and_eq_true, decide_eq_true_eq]
    omega
  have hb : wiresBad n = false := by
    simp only [wiresBad, List.any_eq_false]
    rintro ⟨x, i⟩ hp
    have hx : n.2.2.2[i]? = some x := by simpa using List.mem_zipIdx_iff_getElem?.1 hp
    have hxm := List.mem_of_getElem? hx
    have a := hw.inw x hxm
    have b := hw.w x hxm
    have d1 : decide (0 ≤ x.1) = true := by rw [decide_eq_true_eq]; omega
    have d2 : decide (x.1 < x.2.1) = true := by rw [decide_eq_true_eq]; omega
    have d3 : decide (x.2.1 < n.1) = true := by rw [decide_eq_true_eq]; omega
    have d4 : decide (1 ≤ x.2.2) = true := by rw [decide_eq_true_eq]; omega
    have d5 : decide (x.2.2 ≤ 200) = true := by rw [decide_eq_true_eq]; omega
    simp only [badW, d1, d2, d3, d4, d5, Bool.and_self, Bool.not_true, Bool.false_or]
    cases i with
    | zero => simp
    | succ j =>
      simp only
      cases hj : n.2.2.2[j]? with
      | none => simp
      | some y =>
        have hlt : j + 1 < n.2.2.2.length := (List.getElem?_eq_some_iff.1 hx).1
        have := List.pairwise_iff_getElem.1 hw.srt j (j + 1) (by omega) hlt (by omega)
        have e1 : n.2.2.2[j] = y := by rw [List.getElem?_eq_getElem (by omega)] at hj; simpa using hj
        have e2 : n.2.2.2[j + 1] = x := by rw [List.getElem?_eq_getElem hlt] at hx; simpa using hx
        rw [e1, e2] at this
        simp [this]
  have hcn : conn n = true := by
    unfold conn
    simp only [decide_eq_true_eq]; exact hc
  simp only [netok, hh, hb, hcn, Bool.not_false, Bool.and_self]
theorem Wok.up {m : Nat} {K K' : Int} {l : List W3} (h : Wok m K l) (hk : K ≤ K') : Wok m K' l := ⟨h.srt, h.inw, fun e he => by have := h.w e he; omega⟩
theorem Wok.sm {m : Nat} (hm : m ≤ 5) {K : Int} (hK : K ≤ 1000000) {l : List W3} (h : Wok m K l) (hl : l.length ≤ 1000) : Sm.sm B0 l :=
  ⟨by simp only [B0]; omega, fun e he => by
    have a := h.inw e he
    have b := h.w e he
    exact ⟨(⟨by omega, by omega⟩ : Sm.sm B0 e.1), (⟨by omega, by omega⟩ : Sm.sm B0 e.2.1), (⟨by omega, by omega⟩ : Sm.sm B0 e.2.2)⟩⟩
theorem Drawn.ok {most K : Int} {n : TNet} (h : Drawn most K n) (h5 : most ≤ 5) (hK : K ≤ 200) : netok n = true ∧ Sm.sm B0 n := by
  have a := h.n2
  have b := h.most
  have c := h.e2
  have d := h.en
  have e := h.s1
  have f := h.s3
  refine ⟨netok_of (m := n.1.toNat) (by omega) (by omega) (by omega) (by omega) d e (by omega) (h.wok.up hK) h.con, ?_⟩
  exact ⟨(⟨by omega, by omega⟩ : Sm.sm B0 n.1), (⟨by omega, by omega⟩ : Sm.sm B0 n.2.1), (⟨by omega, by omega⟩ : Sm.sm B0 n.2.2.1), h.wok.sm (by omega) (by omega) (by have := h.len; omega)⟩
end Go.Sx.R
namespace Go.Sx.R
open Go Go.Sx
def Z0 : TNet := (0, 0, 0, [])
noncomputable def respV (n : TNet) : List (List (Int × Int)) := ((e_spec_ResponseOf (n, ())).map (·.1)).getD []
theorem p_Resp (n : TNet) (hn : Sm.sm B1 n) : e_impl_ResponseOf (n, ()) = some (respV n, netok n) ∧ e_spec_ResponseOf (n, ()) = some (respV n, netok n) ∧ Sm.sm B1 (respV n) := by
  obtain ⟨q, q1, q2, q3, _⟩ := resp_both n hn
  have e1 : respV n = q.1 := by simp only [respV, q2, Option.map_some, Option.getD_some]
  have e2 : q.2 = netok n := by
    cases hok : netok n with
    | true =>
      obtain ⟨m, E, L, inn, h⟩ := nk_of n hn hok
      rw [h.pResp] at q1
      rw [← Option.some.inj q1]
    | false =>
      simp only [e_impl_ResponseOf, r_impl_ResponseOf, p_NetOk n hn, hok, Option.bind_some, Bool.not_false, cond_true] at q1
      rw [← Option.some.inj q1]
  obtain ⟨a, b⟩ := q
  simp only at e1 e2
  subst e1; subst e2
  exact ⟨q1, q2, q3⟩
theorem p_Alike (a b : TNet) (ha : Sm.sm B1 a) (hb : Sm.sm B1 b) : e_impl_AreAlike (a, b, ()) = some (netok a && netok b && decide (respV a = respV b)) := by
  obtain ⟨a1, _, a3⟩ := p_Resp a ha
  obtain ⟨b1, _, _⟩ := p_Resp b hb
  simp only [e_impl_AreAlike, r_impl_AreAlike, a1, b1, Option.bind_some]
  cases netok a with
  | false => rfl
  | true =>
    cases netok b with
    | false => rfl
    | true => simp only [cond_true, p_Same _ _ a3, Option.bind_some, Bool.true_and]
end Go.Sx.R
namespace Go.Sx.R
open Go Go.Sx
theorem nn4 {s t u v p q r a b c : Int} (hp : 0 ≤ p) (hq : 0 ≤ q) (hr : 0 ≤ r) (ha : 0 ≤ a) (hb : 0 ≤ b) (hc : 0 ≤ c) (h1 : p + q + r ≤ s) (h2 : p + a + b ≤ t) (h3 : q + a + c ≤ u) (h4 : r + b + c ≤ v) :
    0 ≤ s * (t * (u * v - c * c) - a * (a * v + c * b) - b * (a * c + u * b)) - p * (p * (u * v - c * c) + a * (q * v + c * r) + b * (q * c + u * r))
      - q * (p * (a * v + c * b) + t * (q * v + c * r) - b * (q * b - a * r)) - r * (p * (a * c + u * b) + t * (q * c + u * r) + a * (q * b - a * r)) := by
  have hs : 0 ≤ s := by omega
  by_cases h0 : s = 0
  · have e1 : p = 0 := by omega
    have e2 : q = 0 := by omega
    have e3 : r = 0 := by omega
    subst h0; subst e1; subst e2; subst e3; simp
  · have A : 0 ≤ s * a + p * q := by have := mul_nn hs ha; have := mul_nn hp hq; omega
    have B : 0 ≤ s * b + p * r := by have := mul_nn hs hb; have := mul_nn hp hr; omega
    have C : 0 ≤ s * c + q * r := by have := mul_nn hs hc; have := mul_nn hq hr; omega
    have k1 : (s * a + p * q) + (s * b + p * r) ≤ s * t - p * p := by
      have x : 0 ≤ s * (t - p - a - b) := mul_nn hs (by omega)
      have y : 0 ≤ p * (s - p - q - r) := mul_nn hp (by omega)
      have e : s * t - p * p - ((s * a + p * q) + (s * b + p * r)) = s * (t - p - a - b) + p * (s - p - q - r) := by grind
      omega
    have k2 : (s * a + p * q) + (s * c + q * r) ≤ s * u - q * q := by
      have x : 0 ≤ s * (u - q - a - c) := mul_nn hs (by omega)
      have y : 0 ≤ q * (s - p - q - r) := mul_nn hq (by omega)
      have e : s * u - q * q - ((s * a + p * q) + (s * c + q * r)) = s * (u - q - a - c) + q * (s - p - q - r) := by grind
      omega
    have k3 : (s * b + p * r) + (s * c + q * r) ≤ s * v - r * r := by
      have x : 0 ≤ s * (v - r - b - c) := mul_nn hs (by omega)
      have y : 0 ≤ r * (s - p - q - r) := mul_nn hr (by omega)
      have e : s * v - r * r - ((s * b + p * r) + (s * c + q * r)) = s * (v - r - b - c) + r * (s - p - q - r) := by grind
      omega
    have key := nn3 A B C k1 k2 k3
    have e : (s * t - p * p) * ((s * u - q * q) * (s * v - r * r) - (s * c + q * r) * (s * c + q * r)) - (s * a + p * q) * ((s * a + p * q) * (s * v - r * r) + (s * c + q * r) * (s * b + p * r)) - (s * b + p * r) * ((s * a + p * q) * (s * c + q * r) + (s * u - q * q) * (s * b + p * r))
      = s * s * (s * (t * (u * v - c * c) - a * (a * v + c * b) - b * (a * c + u * b)) - p * (p * (u * v - c * c) + a * (q * v + c * r) + b * (q * c + u * r))
      - q * (p * (a * v + c * b) + t * (q * v + c * r) - b * (q * b - a * r)) - r * (p * (a * c + u * b) + t * (q * c + u * r) + a * (q * b - a * r))) := by grind
    rw [e] at key
    have hs1 : 0 < s := by omega
    exact Int.nonneg_of_mul_nonneg_right key (Int.mul_pos hs1 hs1)
theorem sum_sub {g : Int → Int} : ∀ {l V : List Int}, l.Nodup → V.Nodup → (∀ i ∈ l, i ∈ V) → (∀ i ∈ V, i ∉ l → g i ≤ 0) → (V.map g).sum ≤ (l.map g).sum
  | [], V, _, _, _, h => by
    have : ∀ V : List Int, (∀ i ∈ V, g i ≤ 0) → (V.map g).sum ≤ 0 := by
      intro V
      induction V with
      | nil => intro _; simp
      | cons x V ih => intro h; simp only [List.map_cons, List.sum_cons]; have := h x (by simp); have := ih fun i hi => h i (by simp [hi]); omega
    simpa using this V fun i hi => h i hi (by simp)
  | x :: l, V, hl, hV, hs, h => by
    have hx := hs x (by simp)
    have hp := List.perm_cons_erase hx
    have hn := List.nodup_cons.1 hl
    have ih := sum_sub (g := g) (l := l) (V := V.erase x) hn.2 (hV.erase x) (fun i hi => (List.mem_erase_of_ne (by rintro rfl; exact hn.1 hi)).2 (hs i (by simp [hi]))) (fun i hi hil => by
      have := (hV.mem_erase_iff).1 hi
      exact h i this.2 (by simp [this.1, hil]))
    rw [perm_sum (hp.map g)]
    simp only [List.map_cons, List.sum_cons]
    omega
theorem LapZ.diag {M : List (List Int)} {V : List Int} (h : LapZ M V) {x : Int} {l : List Int} (hx : x ∈ V) (hl : (x :: l).Nodup) (hs : ∀ i ∈ l, i ∈ V) : 0 ≤ at2 M x x + (l.map (at2 M x)).sum := by
  have := sum_sub (g := at2 M x) hl h.nd (fun i hi => by rcases List.mem_cons.1 hi with rfl | hi; exact hx; exact hs i hi) (fun i hi hn => h.off x hx i hi (by rintro rfl; exact hn (by simp)))
  rw [h.sum x hx] at this
  simpa using this
theorem LapZ.step {M : List (List Int)} {V : List Int} (h : LapZ M V) {x y : Int} {r : List Int} (hl : (x :: r).Nodup) (hs : ∀ i ∈ x :: r, i ∈ V) (hy : y ∈ V) (hyl : y ∉ x :: r) (h3 : r.length ≤ 3) : -at2 M x y * detZ M r r ≤ detZ M (x :: r) (x :: r) := by
  have hx := hs x (by simp)
  have hyx : x ≠ y := by rintro rfl; exact hyl (by simp)
  have off : ∀ i ∈ x :: r, ∀ j ∈ x :: r, i ≠ j → 0 ≤ -at2 M i j := fun i hi j hj hij => by have := h.off i (hs i hi) j (hs j hj) hij; omega
  have dx : 0 ≤ at2 M x x + ((y :: r).map (at2 M x)).sum := h.diag hx (by
    have := List.nodup_cons.1 hl
    refine List.nodup_cons.2 ⟨?_, List.nodup_cons.2 ⟨fun hm => hyl (by simp [hm]), this.2⟩⟩
    intro hm
    rcases List.mem_cons.1 hm with e | hm
    · exact hyx e
    · exact this.1 hm) (fun i hi => by rcases List.mem_cons.1 hi with rfl | hi; exact hy; exact hs i (by simp [hi]))
  match r, h3 with
  | [], _ =>
    simp only [List.map_cons, List.map_nil, List.sum_cons, List.sum_nil] at dx
    rw [detZ1]
    have e1 : detZ M [] [] = 1 := by simp [detZ]
    rw [e1]
    omega
  | [a], _ =>
    have d1 := h.diag (x := a) (l := [x]) (hs a (by simp)) (by simp at hl ⊢; exact fun e => hl e.symm) (by simpa using hx)
    simp only [List.map_cons, List.map_nil, List.sum_cons, List.sum_nil] at dx d1
    have s1 := h.sym a (hs a (by simp)) x hx
    have hxa : x ≠ a := by simp at hl; exact hl
    have o1 := off x (by simp) a (by simp) hxa
    have key := nn2 (s := at2 M x x + at2 M x y) (t := at2 M a a) (w := -at2 M x a) o1 (by omega) (by omega)
    simp only [detZ1, detZ2, s1]
    have e : at2 M x x * at2 M a a - at2 M x a * at2 M x a - -at2 M x y * at2 M a a = (at2 M x x + at2 M x y) * at2 M a a - -at2 M x a * -at2 M x a := by grind
    omega
  | [a, b], _ =>
    simp only [List.nodup_cons, List.mem_cons, List.not_mem_nil, or_false, not_or, List.nodup_nil, and_true, not_false_eq_true] at hl
    obtain ⟨⟨n1, n2⟩, n3⟩ := hl
    have d1 := h.diag (x := a) (l := [x, b]) (hs a (by simp)) (by simp; exact ⟨⟨fun e => n1 e.symm, n3⟩, n2⟩) (by simp; exact ⟨hx, hs b (by simp)⟩)
    have d2 := h.diag (x := b) (l := [x, a]) (hs b (by simp)) (by simp; exact ⟨⟨fun e => n2 e.symm, fun e => n3 e.symm⟩, n1⟩) (by simp; exact ⟨hx, hs a (by simp)⟩)
    simp only [List.map_cons, List.map_nil, List.sum_cons, List.sum_nil] at dx d1 d2
    have s1 := h.sym a (hs a (by simp)) x hx
    have s2 := h.sym b (hs b (by simp)) x hx
    have s3 := h.sym b (hs b (by simp)) a (hs a (by simp))
    have key := nn3 (s := at2 M x x + at2 M x y) (t := at2 M a a) (u := at2 M b b) (p := -at2 M x a) (q := -at2 M x b) (r := -at2 M a b) (off _ (by simp) _ (by simp) n1) (off _ (by simp) _ (by simp) n2) (off _ (by simp) _ (by simp) n3) (by omega) (by omega) (by omega)
    simp only [detZ2, detZ3, s1, s2, s3]
    generalize at2 M x x = X at *
    generalize at2 M a a = A at *
    generalize at2 M b b = B at *
    generalize at2 M x y = Y at *
    generalize at2 M x a = P at *
    generalize at2 M x b = Q at *
    generalize at2 M a b = R at *
    have e : X * (A * B - R * R) - P * (P * B - R * Q) + Q * (P * R - A * Q) - -Y * (A * B - R * R) = (X + Y) * (A * B - -R * -R) - -P * (-P * B + -R * -Q) - -Q * (-P * -R + A * -Q) := by grind
    omega
  | [a, b, c], _ =>
    simp only [List.nodup_cons, List.mem_cons, List.not_mem_nil, or_false, not_or, List.nodup_nil, and_true, not_false_eq_true] at hl
    obtain ⟨⟨n1, n2, n3⟩, ⟨n4, n5⟩, n6⟩ := hl
    have d1 := h.diag (x := a) (l := [x, b, c]) (hs a (by simp)) (by simp; exact ⟨⟨fun e => n1 e.symm, n4, n5⟩, ⟨n2, n3⟩, n6⟩) (by simp; exact ⟨hx, hs b (by simp), hs c (by simp)⟩)
    have d2 := h.diag (x := b) (l := [x, a, c]) (hs b (by simp)) (by simp; exact ⟨⟨fun e => n2 e.symm, fun e => n4 e.symm, n6⟩, ⟨n1, n3⟩, n5⟩) (by simp; exact ⟨hx, hs a (by simp), hs c (by simp)⟩)
    have d3 := h.diag (x := c) (l := [x, a, b]) (hs c (by simp)) (by simp; exact ⟨⟨fun e => n3 e.symm, fun e => n5 e.symm, fun e => n6 e.symm⟩, ⟨n1, n2⟩, n4⟩) (by simp; exact ⟨hx, hs a (by simp), hs b (by simp)⟩)
    simp only [List.map_cons, List.map_nil, List.sum_cons, List.sum_nil] at dx d1 d2 d3
    have s1 := h.sym a (hs a (by simp)) x hx
    have s2 := h.sym b (hs b (by simp)) x hx
    have s3 := h.sym c (hs c (by simp)) x hx
    have s4 := h.sym b (hs b (by simp)) a (hs a (by simp))
    have s5 := h.sym c (hs c (by simp)) a (hs a (by simp))
    have s6 := h.sym c (hs c (by simp)) b (hs b (by simp))
    have key := nn4 (s := at2 M x x + at2 M x y) (t := at2 M a a) (u := at2 M b b) (v := at2 M c c) (p := -at2 M x a) (q := -at2 M x b) (r := -at2 M x c) (a := -at2 M a b) (b := -at2 M a c) (c := -at2 M b c)
      (off _ (by simp) _ (by simp) n1) (off _ (by simp) _ (by simp) n2) (off _ (by simp) _ (by simp) n3) (off _ (by simp) _ (by simp) n4) (off _ (by simp) _ (by simp) n5) (off _ (by simp) _ (by simp) n6) (by omega) (by omega) (by omega) (by omega)
    simp only [detZ3, detZ4, s1, s2, s3, s4, s5, s6]
    generalize at2 M x x = X at *
    generalize at2 M a a = A at *
    generalize at2 M b b = B at *
    generalize at2 M c c = C at *
    generalize at2 M x y = Y at *
    generalize at2 M x a = P at *
    generalize at2 M x b = Q at *
    generalize at2 M x c = R at *
    generalize at2 M a b = S at *
    generalize at2 M a c = T at *
    generalize at2 M b c = U at *
    clear d1 d2 d3 dx off
    have e : (X * (A * (B * C - U * U) - S * (S * C - U * T) + T * (S * U - B * T)) - P * (P * (B * C - U * U) - S * (Q * C - U * R) + T * (Q * U - B * R)) + Q * (P * (S * C - U * T) - A * (Q * C - U * R) + T * (Q * T - S * R)) - R * (P * (S * U - B * T) - A * (Q * U - B * R) + S * (Q * T - S * R))) - -Y * (A * (B * C - U * U) - S * (S * C - U * T) + T * (S * U - B * T))
      = (X + Y) * (A * (B * C - -U * -U) - -S * (-S * C + -U * -T) - -T * (-S * -U + B * -T)) - -P * (-P * (B * C - -U * -U) + -S * (-Q * C + -U * -R) + -T * (-Q * -U + B * -R)) - -Q * (-P * (-S * C + -U * -T) + A * (-Q * C + -U * -R) - -T * (-Q * -T - -S * -R)) - -R * (-P * (-S * -U + B * -T) + A * (-Q * -U + B * -R) + -S * (-Q * -T - -S * -R)) := by grind
    omega
def Hang (M : List (List Int)) (V : List Int) : Prop := ∀ l : List Int, l ≠ [] → (∀ i ∈ l, i ∈ V) → (∃ y ∈ V, y ∉ l) → ∃ x ∈ l, ∃ y ∈ V, y ∉ l ∧ at2 M x y ≤ -1
theorem LapZ.pos {M : List (List Int)} {V : List Int} (h : LapZ M V) (hh : Hang M V) : ∀ (k : Nat) (l : List Int), l.length = k → k ≤ 4 → l.Nodup → (∀ i ∈ l, i ∈ V) → (∃ y ∈ V, y ∉ l) → 1 ≤ detZ M l l
  | 0, l, hk, _, _, _, _ => by
    have : l = [] := List.length_eq_zero_iff.1 hk
    subst this; simp [detZ]
  | k + 1, l, hk, h4, hn, hs, hy => by
    have hne : l ≠ [] := by rintro rfl; simp at hk
    obtain ⟨x, hx, y, hyV, hyl, hxy⟩ := hh l hne hs hy
    have hp := List.perm_cons_erase hx
    have hlen : (l.erase x).length = k := by rw [List.length_erase_of_mem hx, hk]; rfl
    have hn' : (x :: l.erase x).Nodup := hp.nodup_iff.1 hn
    have hm : ∀ i, i ∈ x :: l.erase x ↔ i ∈ l := fun i => hp.symm.mem_iff
    have ih := LapZ.pos h hh k (l.erase x) hlen (by omega) (List.nodup_cons.1 hn').2 (fun i hi => hs i (List.mem_of_mem_erase hi)) ⟨x, hs x hx, (List.nodup_cons.1 hn').1⟩
    have st := h.step (x := x) (y := y) (r := l.erase x) hn' (fun i hi => hs i ((hm i).1 hi)) hyV (fun hi => hyl ((hm y).1 hi)) (by omega)
    rw [detZ_perm hp (by omega)]
    have : 1 * 1 ≤ -at2 M x y * detZ M (l.erase x) (l.erase x) := Int.mul_le_mul (by omega) ih (by omega) (by omega)
    omega
end Go.Sx.R
namespace Go.Sx.R
open Go Go.Sx
theorem wbt_comm (ws : List W3) (a b : Int) : wbt ws a b = wbt ws b a := by
  by_cases h : a = b
  · rw [h]
  · have e : isW a b = isW b a := by
      funext x
      have e1 : (if b < a then b else a) = (if a < b then a else b) := by split <;> split <;> omega
      have e2 : (if b > a then b else a) = (if a > b then a else b) := by split <;> split <;> omega
      simp only [isW, e1, e2]
    simp only [wbt, e, h, if_false, Ne.symm h]
theorem scale_ok {n : TNet} (ok : netok n = true) : 1 ≤ n.2.2.1 ∧ n.2.2.1 ≤ 1000 := by
  have hh : hdrOk n = true := by revert ok; simp only [netok]; cases hdrOk n <;> simp
  simp only [hdrOk, Bool.and_eq_true, decide_eq_true_eq] at hh
  omega
theorem sum_mem {β : Type} (h : β → Int) : ∀ (l : List β), (∀ x ∈ l, 0 ≤ h x) → ∀ x ∈ l, h x ≤ (l.map h).sum
  | [], _, x, hx => by simp at hx
  | y :: l, h0, x, hx => by
    have ih := sum_mem h l fun z hz => h0 z (by simp [hz])
    have hs : 0 ≤ (l.map h).sum := by
      have : ∀ (l : List β), (∀ x ∈ l, 0 ≤ h x) → 0 ≤ (l.map h).sum := by
        intro l
        induction l with
        | nil => simp
        | cons z l ih2 => intro hz; have := ih2 fun y hy => hz y (by simp [hy]); have := hz z (by simp); simp; omega
      exact this l fun z hz => h0 z (by simp [hz])
    have hy := h0 y (by simp)
    simp only [List.map_cons, List.sum_cons]
    rcases List.mem_cons.1 hx with rfl | hx
    · omega
    · have := ih x hx; omega
theorem netok_rc {n : TNet} (h : netok n = true) {v : Int} (h0 : 0 ≤ v) (h1 : v < n.1) : Rc n.2.2.2 v := by
  revert h
  simp only [netok, Bool.and_eq_true]
  intro h
  have := h.2
  simp only [conn, decide_eq_true_eq] at this
  exact this v h0 h1
theorem wAt_pos {n : TNet} (h : netok n = true) {v : Int} (h0 : 1 ≤ v) (h1 : v < n.1) : 1 ≤ wAt n.2.2.2 v := by
  have hW := wiresW h
  have hc := netok_rc h (by omega) h1
  obtain ⟨e, he, ht⟩ : ∃ e ∈ n.2.2.2, e.1 = v ∨ e.2.1 = v := by
    cases hc with
    | zero => omega
    | ab he _ => exact ⟨_, he, .inr rfl⟩
    | ba he _ => exact ⟨_, he, .inl rfl⟩
  have := sum_mem (touch v) n.2.2.2 (fun x hx => by have := hW x hx; simp only [touch]; split <;> omega) e he
  have ht' : touch v e = e.2.2 := by simp only [touch]; rw [if_pos ht]
  have := hW e he
  simp only [wAt]; omega
def un (v i : Nat) : Nat := if i < v then i else i + 1
def ix (v a : Nat) : Nat := if v < a then a - 1 else a
theorem un_ne (v i : Nat) : un v i ≠ v := by unfold un; split <;> omega
theorem un_lt {v i j : Nat} (h : i < j) : un v i < un v j := by unfold un; split <;> split <;> omega
theorem un_inj {v i j : Nat} (h : un v i = un v j) : i = j := by
  rcases Nat.lt_trichotomy i j with q | q | q
  · have := un_lt (v := v) q; omega
  · exact q
  · have := un_lt (v := v) q; omega
theorem un_bd {v i m : Nat} (hv : v < m) (h : i < m - 1) : un v i < m := by unfold un; split <;> omega
theorem un_ix {v a : Nat} (h : a ≠ v) : un v (ix v a) = a := by unfold un ix; split <;> split <;> omega
theorem ix_lt {v a b : Nat} (ha : a ≠ v) (hb : b ≠ v) (h : a < b) : ix v a < ix v b := by unfold ix; split <;> split <;> omega
theorem ix_bd {v a m : Nat} (ha : a ≠ v) (hv : v < m) (h : a < m) : ix v a < m - 1 := by unfold ix; split <;> omega
theorem un_iff {v a i : Nat} (ha : a ≠ v) : un v i = a ↔ i = ix v a := ⟨fun h => un_inj (v := v) (by rw [un_ix ha]; exact h), fun h => by rw [h, un_ix ha]⟩
theorem s_Index (a v : Nat) (ha : a ≤ 1000) : e_spec_l05Index ((a : Int), (v : Int), ()) = some ((ix v a : Nat) : Int) := by
  simp only [e_spec_l05Index, r_spec_l05Index]
  by_cases h : v < a
  · have d : decide ((a : Int) > (v : Int)) = true := by rw [decide_eq_true_eq]; omega
    have w : wr ((a : Int) - 1) = ((ix v a : Nat) : Int) := by rw [wr_id (by omega) (by omega), ix, if_pos h]; omega
    simp only [d, cond_true, w]
  · have d : decide ((a : Int) > (v : Int)) = false := by rw [decide_eq_false_iff_not]; omega
    simp only [d, cond_false, ix, if_neg h]
theorem p_without (T : List (List Int)) (m v : Nat) (hm5 : m ≤ 5) (hv : v < m) (f : Nat → Nat → Int) (hT : IsTab T m f) : ∃ U, e_impl_without (T, (v : Int), ()) = some U ∧ IsTab U (m - 1) (fun i j => f (un v i) (un v j)) := by
  obtain ⟨hTl, hrow⟩ := hT
  simp only [e_impl_without, r_impl_without]
  have wv : wr ((v : Int) + 1) = ((v + 1 : Nat) : Int) := by rw [wr_id (by omega) (by omega)]; omega
  refine iter_rule (R := List (List Int)) (fun o => ∃ U, o = some U ∧ IsTab U (m - 1) (fun i j => f (un v i) (un v j))) T (fun (U : List (List Int)) i => ((v : Int), U, T, (T.length : Int), i, ()))
    (fun i U => U.length = ix v i ∧ ∀ k, k < U.length → ∃ row : List Int, U[k]? = some row ∧ row.length = m - 1 ∧ ∀ j, j < m - 1 → row[j]? = some (f (un v k) (un v j)))
    (fun U i x kc ⟨p1, p2⟩ hx hi hk => ?_) (fun U kc ⟨p1, p2⟩ => ?_) (by have := N0_big; omega) [] ⟨by simp [ix], by simp⟩
  · have him : i < m := by omega
    obtain ⟨row, r1, r2, r3⟩ := hrow i him
    rw [hx] at r1; simp only [Option.some.injEq] at r1; subst r1
    simp only [r_impl_without_L0, lt_len, hi, decide_true, cond_true, getI_nat, hx, Option.bind_some, wr_succ hi (show T.length ≤ 9223372036854775807 by omega)]
    by_cases he : i = v
    · have d : decide ((i : Int) = (v : Int)) = true := by rw [decide_eq_true_eq]; omega
      simp only [d, Bool.not_true, cond_false]
      refine hk U ⟨by rw [p1, he]; simp [ix], p2⟩
    · have d : decide ((i : Int) = (v : Int)) = false := by rw [decide_eq_false_iff_not]; omega
      have hdel : e_slices_Delete_int x ((v : Int), (((v + 1 : Nat) : Int), ())) = some (x, x.eraseIdx v) := by
        have hc : decide ((0 : Int) ≤ (v : Int) ∧ (v : Int) ≤ ((v + 1 : Nat) : Int) ∧ ((v + 1 : Nat) : Int) ≤ (x.length : Int)) = true := by rw [decide_eq_true_eq]; omega
        simp only [e_slices_Delete_int, delFn, hc, cond_true, Int.toNat_natCast, List.eraseIdx_eq_take_drop_succ]
      have hul : U.length ≤ 5 := by rw [p1]; unfold ix; split <;> omega
      have bl : ∀ y : List Int, Nat.ble (U.length + List.length (y :: ([] : List (List Int)))) 17179869184 = true := fun y => ble_true (by simp; omega)
      simp only [d, Bool.not_false, cond_true, p_Clone x (by omega), Option.bind_some, wv, hdel, bl]
      refine hk _ ⟨?_, fun k hkl => ?_⟩
      · rw [List.length_append, p1]; simp only [List.length_cons, List.length_nil]; unfold ix; split <;> split <;> omega
      · rw [List.length_append] at hkl
        simp only [List.length_cons, List.length_nil] at hkl
        by_cases hkU : k < U.length
        · rw [List.getElem?_append_left hkU]; exact p2 k hkU
        · have hkk : k = U.length := by omega
          rw [List.getElem?_append_right (by omega), hkk, Nat.sub_self]
          refine ⟨_, rfl, by rw [List.length_eraseIdx, if_pos (by omega), r2], fun j hj => ?_⟩
          have hun : un v U.length = i := by rw [p1]; exact un_ix he
          rw [hun, List.getElem?_eraseIdx]
          by_cases hjv : j < v
          · rw [if_pos hjv, r3 j (by omega), un, if_pos hjv]
          · rw [if_neg hjv, r3 (j + 1) (by omega), un, if_neg hjv]
  · simp only [r_impl_without_L0, not_lt_self, cond_false]
    refine ⟨U, rfl, ?_, fun k hk => ?_⟩
    · rw [p1, hTl]; unfold ix; split <;> omega
    · refine p2 k ?_
      rw [p1, hTl]; unfold ix; split <;> omega
def meshF (ws : List W3) (v : Nat) (a b : Nat) : Int := wbt ws (un v a : Int) (un v b : Int) * wAt ws (v : Int) + wbt ws (v : Int) (un v a : Int) * wbt ws (v : Int) (un v b : Int)
def starG (ws : List W3) (v : Nat) (i j : Nat) (a b : Nat) : Int := if (a < i ∨ (a = i ∧ b < j)) ∧ a ≠ v ∧ b ≠ v ∧ a ≠ b then wbt ws (a : Int) (b : Int) * wAt ws (v : Int) + wbt ws (a : Int) (v : Int) * wbt ws (v : Int) (b : Int) else wbt ws (a : Int) (b : Int)
theorem mesh_bd {x y z s : Int} (hx : 0 ≤ x ∧ x ≤ 200) (hs : 0 ≤ s ∧ s ≤ 1000) (hy : 0 ≤ y ∧ y ≤ 200) (hz : 0 ≤ z ∧ z ≤ 200) : (0 ≤ x * s ∧ x * s ≤ 200000) ∧ 0 ≤ y * z ∧ y * z ≤ 40000 := by
  have h1 : 0 ≤ x * s := Int.mul_nonneg hx.1 hs.1
  have h2 : x * s ≤ 200 * 1000 := Int.mul_le_mul hx.2 hs.2 hs.1 (by omega)
  have h3 : 0 ≤ y * z := Int.mul_nonneg hy.1 hz.1
  have h4 : y * z ≤ 200 * 200 := Int.mul_le_mul hy.2 hz.2 hz.1 (by omega)
  omega
theorem meshF_bd {ws : List W3} {m : Nat} (hs : Srt ws) (hin : InW m ws) (hm5 : m ≤ 5) (hW : ∀ e ∈ ws, 1 ≤ e.2.2 ∧ e.2.2 ≤ 200) (v a b : Nat) : 0 ≤ meshF ws v a b ∧ meshF ws v a b ≤ 240000 := by
  have q := wAt_le hs hin hm5 hW (v : Int)
  have := mesh_bd (wbt_bd hW (un v a : Int) (un v b : Int)) q (wbt_bd hW (v : Int) (un v a : Int)) (wbt_bd hW (v : Int) (un v b : Int))
  simp only [meshF]; omega
def meshN (n : TNet) (m v : Nat) (l : List W3) : TNet := (((m - 1 : Nat) : Int), n.2.1, n.2.2.1 * wAt n.2.2.2 (v : Int), l)
theorem p_Star (n : TNet) (hn : Sm.sm B1 n) (hok : netok n = true) (m : Nat) (hm : n.1 = m) (v : Nat) (hv0 : n.2.1 ≤ v) (hv : v < m) :
    ∃ l, WiresOf (meshF n.2.2.2 v) (m - 1) (fun _ _ => True) l ∧ Fine (meshN n m v l) ∧ e_impl_StarMesh (n, (v : Int), ()) = some (cond (netok (canon (meshN n m v l))) (canon (meshN n m v l), true) ((0, 0, 0, []), false)) := by
  obtain ⟨m', hm', hm1, hm5, hin, he1, he2⟩ := netok_facts hok
  have hmm : m' = m := by omega
  subst hmm
  have hW := wiresW hok
  have hS := netok_srt hok
  have hA := wAt_le hS hin hm5 hW (v : Int)
  have hA1 := wAt_pos hok (v := (v : Int)) (by omega) (by omega)
  have hsc := scale_ok hok
  obtain ⟨T, hT, hTab⟩ := p_table n m' hn hm hm5 hin
  have d1 : decide ((v : Int) < n.2.1) = false := by rw [decide_eq_false_iff_not]; omega
  have d2 : decide ((v : Int) ≥ n.1) = false := by rw [decide_eq_false_iff_not]; omega
  have hTl := hTab.1
  have hd : (List.range m').length = m' := by simp
  have hmB : m' ≤ 9223372036854775807 := by omega
  simp only [e_impl_StarMesh, r_impl_StarMesh, p_NetOk n hn, hok, Option.bind_some, Bool.not_true, cond_false, d1, d2, hT, p_WeightAt n hn hW, hTl]
  refine iter_rule (R := TNet × Bool) (fun o => ∃ l, WiresOf (meshF n.2.2.2 v) (m' - 1) (fun _ _ => True) l ∧ Fine (meshN n m' v l) ∧ o = some (cond (netok (canon (meshN n m' v l))) (canon (meshN n m' v l), true) ((0, 0, 0, []), false))) (List.range m')
    (fun (T : List (List Int)) i => ((v : Int), n, (0, 0, 0, []), T, wAt n.2.2.2 (v : Int), (m' : Int), i, ())) (fun i T => IsTab T m' (starG n.2.2.2 v i 0)) (fun T i x kc hp hx hi hk => ?_) (fun T kc hp => ?_) (N := N0) (by have := N0_big; omega) T (hTab.congr fun a b _ _ => by simp [starG])
  · have him : i < m' := by rw [hd] at hi; exact hi
    have d3 : decide ((i : Int) < (m' : Int)) = true := by rw [decide_eq_true_eq]; omega
    have hTl := hp.1
    simp only [r_impl_StarMesh_L0, d3, cond_true, hTl]
    refine iter_rule (R := TNet × Bool) (fun o => ∃ l, WiresOf (meshF n.2.2.2 v) (m' - 1) (fun _ _ => True) l ∧ Fine (meshN n m' v l) ∧ o = some (cond (netok (canon (meshN n m' v l))) (canon (meshN n m' v l), true) ((0, 0, 0, []), false))) (List.range m')
      (fun (T : List (List Int)) j => ((v : Int), n, (0, 0, 0, []), T, wAt n.2.2.2 (v : Int), (i : Int), (m' : Int), (i : Int), (m' : Int), j, ())) (fun j T => IsTab T m' (starG n.2.2.2 v i j)) (fun T j y kc2 hq hy hj hk2 => ?_) (fun T kc2 hq => ?_) (N := N0) (by have := N0_big; omega) T hp
    · have hjm : j < m' := by rw [hd] at hj; exact hj
      have d4 : decide ((j : Int) < (m' : Int)) = true := by rw [decide_eq_true_eq]; omega
      simp only [r_impl_StarMesh_L2, d4, cond_true, wr_succ hjm hmB]
      have keep : (i = v ∨ j = v ∨ i = j) → IsTab T m' (starG n.2.2.2 v i (j + 1)) := fun hc => hq.congr fun a b _ _ => by
        simp only [starG]
        have : ((a < i ∨ a = i ∧ b < j) ∧ a ≠ v ∧ b ≠ v ∧ a ≠ b) ↔ ((a < i ∨ a = i ∧ b < j + 1) ∧ a ≠ v ∧ b ≠ v ∧ a ≠ b) := by omega
        simp only [this]
      by_cases c1 : i = v
      · have e1 : decide ((i : Int) = (v : Int)) = true := by rw [decide_eq_true_eq]; omega
        simp only [e1, Bool.not_true, cond_false]
        exact hk2 T (keep (.inl c1))
      · have e1 : decide ((i : Int) = (v : Int)) = false := by rw [decide_eq_false_iff_not]; omega
        simp only [e1, Bool.not_false, cond_true]
        by_cases c2 : j = v
        · have e2 : decide ((j : Int) = (v : Int)) = true := by rw [decide_eq_true_eq]; omega
          simp only [e2, Bool.not_true, cond_false]
          exact hk2 T (keep (.inr (.inl c2)))
        · have e2 : decide ((j : Int) = (v : Int)) = false := by rw [decide_eq_false_iff_not]; omega
          simp only [e2, Bool.not_false, cond_true]
          by_cases c3 : i = j
          · have e3 : decide ((i : Int) = (j : Int)) = true := by rw [decide_eq_true_eq]; omega
            simp only [e3, Bool.not_true, cond_false]
            exact hk2 T (keep (.inr (.inr c3)))
          · have e3 : decide ((i : Int) = (j : Int)) = false := by rw [decide_eq_false_iff_not]; omega
            obtain ⟨rowi, ri1, ri2, ri3⟩ := hq.2 i him
            obtain ⟨rowv, rv1, rv2, rv3⟩ := hq.2 v hv
            have gij : starG n.2.2.2 v i j i j = wbt n.2.2.2 (i : Int) (j : Int) := by simp only [starG]; rw [if_neg (by omega)]
            have giv : starG n.2.2.2 v i j i v = wbt n.2.2.2 (i : Int) (v : Int) := by simp only [starG]; rw [if_neg (by omega)]
            have gvj : starG n.2.2.2 v i j v j = wbt n.2.2.2 (v : Int) (j : Int) := by simp only [starG]; rw [if_neg (by omega)]
            have bd := mesh_bd (wbt_bd hW (i : Int) (j : Int)) hA (wbt_bd hW (i : Int) (v : Int)) (wbt_bd hW (v : Int) (j : Int))
            have w1 : wr (wbt n.2.2.2 (i : Int) (j : Int) * wAt n.2.2.2 (v : Int)) = wbt n.2.2.2 (i : Int) (j : Int) * wAt n.2.2.2 (v : Int) := wr_id (by omega) (by omega)
            have w2 : wr (wbt n.2.2.2 (i : Int) (v : Int) * wbt n.2.2.2 (v : Int) (j : Int)) = wbt n.2.2.2 (i : Int) (v : Int) * wbt n.2.2.2 (v : Int) (j : Int) := wr_id (by omega) (by omega)
            have w3 : wr (wbt n.2.2.2 (i : Int) (j : Int) * wAt n.2.2.2 (v : Int) + wbt n.2.2.2 (i : Int) (v : Int) * wbt n.2.2.2 (v : Int) (j : Int)) = wbt n.2.2.2 (i : Int) (j : Int) * wAt n.2.2.2 (v : Int) + wbt n.2.2.2 (i : Int) (v : Int) * wbt n.2.2.2 (v : Int) (j : Int) := wr_id (by omega) (by omega)
            simp only [e3, Bool.not_false, cond_true, getI_nat, ri1, rv1, ri3 j hjm, ri3 v hv, rv3 j hjm, Option.bind_some, gij, giv, gvj, w1, w2, w3, Int.toNat_natCast]
            refine hk2 _ ((hq.put (v := wbt n.2.2.2 (i : Int) (j : Int) * wAt n.2.2.2 (v : Int) + wbt n.2.2.2 (i : Int) (v : Int) * wbt n.2.2.2 (v : Int) (j : Int)) (b := j) him ri1).congr fun a b _ _ => ?_)
            by_cases e : a = i ∧ b = j
            · obtain ⟨rfl, rfl⟩ := e
              have hc : (a < a ∨ a = a ∧ b < b + 1) ∧ a ≠ v ∧ b ≠ v ∧ a ≠ b := ⟨.inr ⟨rfl, by omega⟩, c1, c2, c3⟩
              rw [if_pos ⟨rfl, rfl⟩]
              unfold starG
              exact (if_pos hc).symm
            · rw [if_neg e]
              simp only [starG]
              have : ((a < i ∨ a = i ∧ b < j) ∧ a ≠ v ∧ b ≠ v ∧ a ≠ b) ↔ ((a < i ∨ a = i ∧ b < j + 1) ∧ a ≠ v ∧ b ≠ v ∧ a ≠ b) := by omega
              simp only [this]
    · have d4 : decide ((((List.range m').length : Nat) : Int) < (m' : Int)) = false := by rw [decide_eq_false_iff_not, hd]; omega
      simp only [r_impl_StarMesh_L2, d4, cond_false, wr_succ him hmB]
      rw [hd] at hq
      refine hk T (hq.congr fun a b ha hb => ?_)
      simp only [starG]
      have : ((a < i ∨ a = i ∧ b < m') ∧ a ≠ v ∧ b ≠ v ∧ a ≠ b) ↔ ((a < i + 1 ∨ a = i + 1 ∧ b < 0) ∧ a ≠ v ∧ b ≠ v ∧ a ≠ b) := by omega
      simp only [this]
  · have d4 : decide ((((List.range m').length : Nat) : Int) < (m' : Int)) = false := by rw [decide_eq_false_iff_not, hd]; omega
    rw [hd] at hp
    obtain ⟨U, hU, hUt⟩ := p_without T m' v hm5 hv _ hp
    have hsb : 1 ≤ n.2.2.1 * wAt n.2.2.2 (v : Int) ∧ n.2.2.1 * wAt n.2.2.2 (v : Int) ≤ 1000000 := by
      constructor
      · have := Int.mul_le_mul hsc.1 hA1 (by omega) (show 0 ≤ n.2.2.1 by omega); omega
      · have := Int.mul_le_mul hsc.2 hA.2 hA.1 (by omega); omega
    have ws : wr (n.2.2.1 * wAt n.2.2.2 (v : Int)) = n.2.2.1 * wAt n.2.2.2 (v : Int) := wr_id (by omega) (by omega)
    have hcg : IsTab U (m' - 1) (fun a b => if a = b then 0 else meshF n.2.2.2 v a b) := hUt.congr fun a b ha hb => by
      have ua := un_bd hv ha
      have ub := un_bd hv hb
      have na := un_ne v a
      have nb := un_ne v b
      by_cases e : a = b
      · subst e
        simp only [if_true, starG]
        rw [if_neg (by omega)]
        simp [wbt]
      · rw [if_neg e]
        have nab : un v a ≠ un v b := fun h => e (un_inj h)
        simp only [starG, meshF]
        rw [if_pos (by omega), wbt_comm n.2.2.2 (un v a : Int) (v : Int)]
    obtain ⟨l, l1, l2, l3⟩ := p_netOfC n.2.1 (n.2.2.1 * wAt n.2.2.2 (v : Int)) U (m' - 1) (by omega) (by omega) _ hcg ⟨hsb.1, by omega⟩ hn.2.1 (fun a b hab hb => by
      have := meshF_bd hS hin hm5 hW v a b
      rw [if_neg (by omega)]; omega)
    refine ⟨l, ⟨l1.srt, fun x => ?_⟩, l2, ?_⟩
    · rw [l1.mem]
      constructor
      · rintro ⟨a, b, h0, h1, h2, h3, h4⟩
        rw [if_neg (by omega)] at h3 h4
        exact ⟨a, b, h0, h1, h2, h3, h4⟩
      · rintro ⟨a, b, h0, h1, h2, h3, h4⟩
        refine ⟨a, b, h0, h1, h2, ?_, ?_⟩
        · rw [if_neg (by omega)]; exact h3
        · rw [if_neg (by omega)]; exact h4
    · simp only [r_impl_StarMesh_L0, d4, cond_false, hU, Option.bind_some, ws, l3]
      rfl
end Go.Sx.R
