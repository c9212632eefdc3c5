/- What the functions compute. Conditions: none. -/
import Derived.Test.YtpdafmbedgkccaaSx3
/- What the functions compute, printed by program out of their code. Conditions: none (definitions). -/
namespace Go.Sx.R
open Go Go.Sx
def r_laws_szIntS (_N : Nat) (a0 : (List Int)) (a1 : Int) : Option Int :=
  (cond (decide ((wr (a1 - (((List.length a0) : Nat) : Int))) < (0 : Int)))
    (some (-(1 : Int)))
    (some (wr (a1 - (((List.length a0) : Nat) : Int)))))

noncomputable def e_laws_szIntS (a : (List Int) × Int × Unit) : Option Int := r_laws_szIntS N0 a.1 a.2.1
def r_laws_szIntSS_L0 (c_laws_szIntS : ((List Int) × Int × Unit → Option Int)) (_N : Nat) (s : ((List (List Int)) × (Int × (Int × Unit)))) (kc ke : ((List (List Int)) × (Int × (Int × Unit))) → Option Int) : Option Int :=
  (cond (decide (s.2.2.1 < (((List.length s.1) : Nat) : Int)))
    (Option.bind (getI s.1 s.2.2.1) fun (x1 : (List Int)) =>
    (Option.bind (c_laws_szIntS (x1, (s.2.1, ()))) fun (x2 : Int) =>
    (cond (decide (x2 < (0 : Int)))
      (some (-(1 : Int)))
      (kc (s.1, (x2, ((wr (s.2.2.1 + (1 : Int))), ())))))))
    (ke (s.1, (s.2.1, (s.2.2.1, ())))))
def r_laws_szIntSS (c_laws_szIntS : ((List Int) × Int × Unit → Option Int)) (N : Nat) (a0 : (List (List Int))) (a1 : Int) : Option Int :=
  (cond (decide ((wr (a1 - (((List.length a0) : Nat) : Int))) < (0 : Int)))
    (some (-(1 : Int)))
    (iterK (r_laws_szIntSS_L0 c_laws_szIntS N) N (a0, ((wr (a1 - (((List.length a0) : Nat) : Int))), ((0 : Int), ()))) fun (s1 : ((List (List Int)) × (Int × (Int × Unit)))) =>
    (some s1.2.1)))

noncomputable def e_laws_szIntSS (a : (List (List Int)) × Int × Unit) : Option Int := r_laws_szIntSS e_laws_szIntS N0 a.1 a.2.1
def r_laws_toIntS_L0 (_N : Nat) (s : ((List Int) × ((List Int) × (Int × Unit)))) (kc ke : ((List Int) × ((List Int) × (Int × Unit))) → Option (List Int)) : Option (List Int) :=
  (cond (decide (s.2.2.1 < (((List.length s.1) : Nat) : Int)))
    (Option.bind (getI s.1 s.2.2.1) fun (x1 : Int) =>
    (Option.bind (getI s.2.1 s.2.2.1) fun (_x2 : Int) =>
    (kc (s.1, ((List.set s.2.1 (Int.toNat s.2.2.1) x1), ((wr (s.2.2.1 + (1 : Int))), ()))))))
    (ke (s.1, (s.2.1, (s.2.2.1, ())))))
def r_laws_toIntS (N : Nat) (a0 : (List Int)) : Option (List Int) :=
  (cond (Nat.ble (Int.toNat (((List.length a0) : Nat) : Int)) 17179869184)
    (iterK (r_laws_toIntS_L0 N) N (a0, ((List.replicate (Int.toNat (((List.length a0) : Nat) : Int)) (0 : Int)), ((0 : Int), ()))) fun (s1 : ((List Int) × ((List Int) × (Int × Unit)))) =>
    (some s1.2.1))
    none)

noncomputable def e_laws_toIntS (a : (List Int) × Unit) : Option (List Int) := r_laws_toIntS N0 a.1
def r_laws_toIntSS_L0 (c_laws_toIntS : ((List Int) × Unit → Option (List Int))) (_N : Nat) (s : ((List (List Int)) × ((List (List Int)) × (Int × Unit)))) (kc ke : ((List (List Int)) × ((List (List Int)) × (Int × Unit))) → Option (List (List Int))) : Option (List (List Int)) :=
  (cond (decide (s.2.2.1 < (((List.length s.1) : Nat) : Int)))
    (Option.bind (getI s.1 s.2.2.1) fun (x1 : (List Int)) =>
    (Option.bind (c_laws_toIntS (x1, ())) fun (x2 : (List Int)) =>
    (Option.bind (getI s.2.1 s.2.2.1) fun (_x3 : (List Int)) =>
    (kc (s.1, ((List.set s.2.1 (Int.toNat s.2.2.1) x2), ((wr (s.2.2.1 + (1 : Int))), ())))))))
    (ke (s.1, (s.2.1, (s.2.2.1, ())))))
def r_laws_toIntSS (c_laws_toIntS : ((List Int) × Unit → Option (List Int))) (N : Nat) (a0 : (List (List Int))) : Option (List (List Int)) :=
  (cond (Nat.ble (Int.toNat (((List.length a0) : Nat) : Int)) 17179869184)
    (iterK (r_laws_toIntSS_L0 c_laws_toIntS N) N (a0, ((List.replicate (Int.toNat (((List.length a0) : Nat) : Int)) ([] : List Int)), ((0 : Int), ()))) fun (s1 : ((List (List Int)) × ((List (List Int)) × (Int × Unit)))) =>
    (some s1.2.1))
    none)

noncomputable def e_laws_toIntSS (a : (List (List Int)) × Unit) : Option (List (List Int)) := r_laws_toIntSS e_laws_toIntS N0 a.1
def r_spec_l01In (_N : Nat) (a0 : Int) (a1 : Int) (a2 : Int) : Option Bool :=
  (cond (decide (a0 ≥ a1))
    (some (decide (a0 ≤ a2)))
    (some false))

noncomputable def e_spec_l01In (a : Int × Int × Int × Unit) : Option Bool := r_spec_l01In N0 a.1 a.2.1 a.2.2.1
def r_spec_l04Matrix_L2 (c_spec_l01In : (Int × Int × Int × Unit → Option Bool)) (_N : Nat) (s : ((List (List Int)) × ((List (List Int)) × (Int × (Int × ((List Int) × (Int × (Int × Unit)))))))) (kc ke : ((List (List Int)) × ((List (List Int)) × (Int × (Int × ((List Int) × (Int × (Int × Unit))))))) → Option Bool) : Option Bool :=
  (cond (decide (s.2.2.2.2.2.2.1 < s.2.2.2.2.2.1))
    (Option.bind (getI s.2.2.2.2.1 s.2.2.2.2.2.2.1) fun (x1 : Int) =>
    (Option.bind (c_spec_l01In (x1, ((-(1000 : Int)), ((1000 : Int), ())))) fun (x2 : Bool) =>
    (cond (!x2)
      (some false)
      (kc (s.1, (s.2.1, (s.2.2.1, (s.2.2.2.1, (s.2.2.2.2.1, (s.2.2.2.2.2.1, ((wr (s.2.2.2.2.2.2.1 + (1 : Int))), ())))))))))))
    (ke (s.1, (s.2.1, (s.2.2.1, (s.2.2.2.1, (s.2.2.2.2.1, (s.2.2.2.2.2.1, (s.2.2.2.2.2.2.1, ())))))))))
def r_spec_l04Matrix_L0 (c_spec_l01In : (Int × Int × Int × Unit → Option Bool)) (N : Nat) (s : ((List (List Int)) × ((List (List Int)) × (Int × (Int × Unit))))) (kc ke : ((List (List Int)) × ((List (List Int)) × (Int × (Int × Unit)))) → Option Bool) : Option Bool :=
  (cond (decide (s.2.2.2.1 < s.2.2.1))
    (Option.bind (getI s.2.1 s.2.2.2.1) fun (x1 : (List Int)) =>
    (cond (!(decide ((((List.length x1) : Nat) : Int) = (((List.length s.1) : Nat) : Int))))
      (some false)
      (iterK (r_spec_l04Matrix_L2 c_spec_l01In N) N (s.1, (s.2.1, (s.2.2.1, (s.2.2.2.1, (x1, ((((List.length x1) : Nat) : Int), ((0 : Int), ()))))))) fun (s2 : ((List (List Int)) × ((List (List Int)) × (Int × (Int × ((List Int) × (Int × (Int × Unit)))))))) =>
      (kc (s2.1, (s2.2.1, (s2.2.2.1, ((wr (s2.2.2.2.1 + (1 : Int))), ()))))))))
    (ke (s.1, (s.2.1, (s.2.2.1, (s.2.2.2.1, ()))))))
def r_spec_l04Matrix (c_spec_l01In : (Int × Int × Int × Unit → Option Bool)) (N : Nat) (a0 : (List (List Int))) : Option Bool :=
  (cond (decide ((((List.length a0) : Nat) : Int) > (5 : Int)))
    (some false)
    (iterK (r_spec_l04Matrix_L0 c_spec_l01In N) N (a0, (a0, ((((List.length a0) : Nat) : Int), ((0 : Int), ())))) fun (_s1 : ((List (List Int)) × ((List (List Int)) × (Int × (Int × Unit))))) =>
    (some true)))

noncomputable def e_spec_l04Matrix (a : (List (List Int)) × Unit) : Option Bool := r_spec_l04Matrix e_spec_l01In N0 a.1
def r_spec_IsWeightMatrix_L2 (_c_spec_l01In : (Int × Int × Int × Unit → Option Bool)) (_c_spec_l04Matrix : ((List (List Int)) × Unit → Option Bool)) (_N : Nat) (s : ((List (List Int)) × (Int × (Int × ((List (List Int)) × (Int × (Int × ((List Int) × (Int × (Int × Unit)))))))))) (kc ke : ((List (List Int)) × (Int × (Int × ((List (List Int)) × (Int × (Int × ((List Int) × (Int × (Int × Unit))))))))) → Option Bool) : Option Bool :=
  (cond (decide (s.2.2.2.2.2.2.2.2.1 < s.2.2.2.2.2.2.2.1))
    (Option.bind (getI s.2.2.2.2.2.2.1 s.2.2.2.2.2.2.2.2.1) fun (x1 : Int) =>
    (Option.bind (getI s.1 s.2.2.2.2.2.2.2.2.1) fun (x2 : (List Int)) =>
    (Option.bind (getI x2 s.2.1) fun (x3 : Int) =>
    (cond (!(decide (x1 = x3)))
      (some false)
      (cond (!(decide (s.2.1 = s.2.2.2.2.2.2.2.2.1)))
        (cond (decide (x1 > (0 : Int)))
          (some false)
          (kc (s.1, (s.2.1, ((wr (s.2.2.1 + x1)), (s.2.2.2.1, (s.2.2.2.2.1, (s.2.2.2.2.2.1, (s.2.2.2.2.2.2.1, (s.2.2.2.2.2.2.2.1, ((wr (s.2.2.2.2.2.2.2.2.1 + (1 : Int))), ())))))))))))
        (kc (s.1, (s.2.1, ((wr (s.2.2.1 + x1)), (s.2.2.2.1, (s.2.2.2.2.1, (s.2.2.2.2.2.1, (s.2.2.2.2.2.2.1, (s.2.2.2.2.2.2.2.1, ((wr (s.2.2.2.2.2.2.2.2.1 + (1 : Int))), ())))))))))))))))
    (ke (s.1, (s.2.1, (s.2.2.1, (s.2.2.2.1, (s.2.2.2.2.1, (s.2.2.2.2.2.1, (s.2.2.2.2.2.2.1, (s.2.2.2.2.2.2.2.1, (s.2.2.2.2.2.2.2.2.1, ())))))))))))
def r_spec_IsWeightMatrix_L0 (c_spec_l01In : (Int × Int × Int × Unit → Option Bool)) (c_spec_l04Matrix : ((List (List Int)) × Unit → Option Bool)) (N : Nat) (s : ((List (List Int)) × ((List (List Int)) × (Int × (Int × Unit))))) (kc ke : ((List (List Int)) × ((List (List Int)) × (Int × (Int × Unit)))) → Option Bool) : Option Bool :=
  (cond (decide (s.2.2.2.1 < s.2.2.1))
    (Option.bind (getI s.2.1 s.2.2.2.1) fun (x1 : (List Int)) =>
    (iterK (r_spec_IsWeightMatrix_L2 c_spec_l01In c_spec_l04Matrix N) N (s.1, (s.2.2.2.1, ((0 : Int), (s.2.1, (s.2.2.1, (s.2.2.2.1, (x1, ((((List.length x1) : Nat) : Int), ((0 : Int), ()))))))))) fun (s2 : ((List (List Int)) × (Int × (Int × ((List (List Int)) × (Int × (Int × ((List Int) × (Int × (Int × Unit)))))))))) =>
    (cond (!(decide (s2.2.2.1 = (0 : Int))))
      (some false)
      (kc (s2.1, (s2.2.2.2.1, (s2.2.2.2.2.1, ((wr (s2.2.2.2.2.2.1 + (1 : Int))), ()))))))))
    (ke (s.1, (s.2.1, (s.2.2.1, (s.2.2.2.1, ()))))))
def r_spec_IsWeightMatrix (c_spec_l01In : (Int × Int × Int × Unit → Option Bool)) (c_spec_l04Matrix : ((List (List Int)) × Unit → Option Bool)) (N : Nat) (a0 : (List (List Int))) : Option Bool :=
  (Option.bind (c_spec_l01In ((((List.length a0) : Nat) : Int), ((1 : Int), ((5 : Int), ())))) fun (x1 : Bool) =>
  (cond (!x1)
    (some false)
    (Option.bind (c_spec_l04Matrix (a0, ())) fun (x2 : Bool) =>
    (cond (!x2)
      (some false)
      (iterK (r_spec_IsWeightMatrix_L0 c_spec_l01In c_spec_l04Matrix N) N (a0, (a0, ((((List.length a0) : Nat) : Int), ((0 : Int), ())))) fun (_s3 : ((List (List Int)) × ((List (List Int)) × (Int × (Int × Unit))))) =>
      (some true))))))

noncomputable def e_spec_IsWeightMatrix (a : (List (List Int)) × Unit) : Option Bool := r_spec_IsWeightMatrix e_spec_l01In e_spec_l04Matrix N0 a.1
def r_spec_l03Has_L0 (_N : Nat) (s : (Int × ((List Int) × (Int × (Int × Unit))))) (kc ke : (Int × ((List Int) × (Int × (Int × Unit)))) → Option Bool) : Option Bool :=
  (cond (decide (s.2.2.2.1 < s.2.2.1))
    (Option.bind (getI s.2.1 s.2.2.2.1) fun (x1 : Int) =>
    (cond (decide (x1 = s.1))
      (some true)
      (kc (s.1, (s.2.1, (s.2.2.1, ((wr (s.2.2.2.1 + (1 : Int))), ())))))))
    (ke (s.1, (s.2.1, (s.2.2.1, (s.2.2.2.1, ()))))))
def r_spec_l03Has (N : Nat) (a0 : (List Int)) (a1 : Int) : Option Bool :=
  (iterK (r_spec_l03Has_L0 N) N (a1, (a0, ((((List.length a0) : Nat) : Int), ((0 : Int), ())))) fun (_s1 : (Int × ((List Int) × (Int × (Int × Unit))))) =>
  (some false))

noncomputable def e_spec_l03Has (a : (List Int) × Int × Unit) : Option Bool := r_spec_l03Has N0 a.1 a.2.1
def r_spec_l09Lists_L4 (c_spec_l03Has : ((List Int) × Int × Unit → Option Bool)) (_N : Nat) (s : (Int × (Int × (Int × ((List (List Int)) × ((List Int) × (Int × ((List (List Int)) × (Int × (Int × Unit)))))))))) (kc ke : (Int × (Int × (Int × ((List (List Int)) × ((List Int) × (Int × ((List (List Int)) × (Int × (Int × Unit))))))))) → Option (List (List Int))) : Option (List (List Int)) :=
  (cond (decide (s.2.2.2.2.2.1 < s.1))
    (Option.bind (c_spec_l03Has (s.2.2.2.2.1, (s.2.2.2.2.2.1, ()))) fun (x1 : Bool) =>
    (cond (!x1)
      (cond (Nat.ble ((List.length ([] : List Int)) + (List.length s.2.2.2.2.1)) 17179869184)
        (cond (Nat.ble ((List.length (([] : List Int) ++ s.2.2.2.2.1)) + (List.length (s.2.2.2.2.2.1 :: ([] : List Int)))) 17179869184)
          (cond (Nat.ble ((List.length s.2.2.2.1) + (List.length (((([] : List Int) ++ s.2.2.2.2.1) ++ (s.2.2.2.2.2.1 :: ([] : List Int))) :: ([] : List (List Int))))) 17179869184)
            (kc (s.1, (s.2.1, (s.2.2.1, ((s.2.2.2.1 ++ (((([] : List Int) ++ s.2.2.2.2.1) ++ (s.2.2.2.2.2.1 :: ([] : List Int))) :: ([] : List (List Int)))), (s.2.2.2.2.1, ((wr (s.2.2.2.2.2.1 + (1 : Int))), (s.2.2.2.2.2.2.1, (s.2.2.2.2.2.2.2.1, (s.2.2.2.2.2.2.2.2.1, ()))))))))))
            none)
          none)
        none)
      (kc (s.1, (s.2.1, (s.2.2.1, (s.2.2.2.1, (s.2.2.2.2.1, ((wr (s.2.2.2.2.2.1 + (1 : Int))), (s.2.2.2.2.2.2.1, (s.2.2.2.2.2.2.2.1, (s.2.2.2.2.2.2.2.2.1, ()))))))))))))
    (ke (s.1, (s.2.1, (s.2.2.1, (s.2.2.2.1, (s.2.2.2.2.1, (s.2.2.2.2.2.1, (s.2.2.2.2.2.2.1, (s.2.2.2.2.2.2.2.1, (s.2.2.2.2.2.2.2.2.1, ())))))))))))
def r_spec_l09Lists_L2 (c_spec_l03Has : ((List Int) × Int × Unit → Option Bool)) (N : Nat) (s : (Int × (Int × (Int × ((List (List Int)) × ((List (List Int)) × (Int × (Int × Unit)))))))) (kc ke : (Int × (Int × (Int × ((List (List Int)) × ((List (List Int)) × (Int × (Int × Unit))))))) → Option (List (List Int))) : Option (List (List Int)) :=
  (cond (decide (s.2.2.2.2.2.2.1 < s.2.2.2.2.2.1))
    (Option.bind (getI s.2.2.2.2.1 s.2.2.2.2.2.2.1) fun (x1 : (List Int)) =>
    (iterK (r_spec_l09Lists_L4 c_spec_l03Has N) N (s.1, (s.2.1, (s.2.2.1, (s.2.2.2.1, (x1, ((0 : Int), (s.2.2.2.2.1, (s.2.2.2.2.2.1, (s.2.2.2.2.2.2.1, ()))))))))) fun (s2 : (Int × (Int × (Int × ((List (List Int)) × ((List Int) × (Int × ((List (List Int)) × (Int × (Int × Unit)))))))))) =>
    (kc (s2.1, (s2.2.1, (s2.2.2.1, (s2.2.2.2.1, (s2.2.2.2.2.2.2.1, (s2.2.2.2.2.2.2.2.1, ((wr (s2.2.2.2.2.2.2.2.2.1 + (1 : Int))), ()))))))))))
    (ke (s.1, (s.2.1, (s.2.2.1, (s.2.2.2.1, (s.2.2.2.2.1, (s.2.2.2.2.2.1, (s.2.2.2.2.2.2.1, ())))))))))
def r_spec_l09Lists_L0 (c_spec_l03Has : ((List Int) × Int × Unit → Option Bool)) (N : Nat) (s : (Int × (Int × ((List (List Int)) × (Int × Unit))))) (kc ke : (Int × (Int × ((List (List Int)) × (Int × Unit)))) → Option (List (List Int))) : Option (List (List Int)) :=
  (cond (decide (s.2.2.2.1 < s.2.1))
    (iterK (r_spec_l09Lists_L2 c_spec_l03Has N) N (s.1, (s.2.1, (s.2.2.2.1, (([] : List (List Int)), (s.2.2.1, ((((List.length s.2.2.1) : Nat) : Int), ((0 : Int), ()))))))) fun (s1 : (Int × (Int × (Int × ((List (List Int)) × ((List (List Int)) × (Int × (Int × Unit)))))))) =>
    (kc (s1.1, (s1.2.1, (s1.2.2.2.1, ((wr (s1.2.2.1 + (1 : Int))), ()))))))
    (ke (s.1, (s.2.1, (s.2.2.1, (s.2.2.2.1, ()))))))
def r_spec_l09Lists (c_spec_l03Has : ((List Int) × Int × Unit → Option Bool)) (N : Nat) (a0 : Int) (a1 : Int) : Option (List (List Int)) :=
  (iterK (r_spec_l09Lists_L0 c_spec_l03Has N) N (a0, (a1, ((([] : List Int) :: ([] : List (List Int))), ((0 : Int), ())))) fun (s1 : (Int × (Int × ((List (List Int)) × (Int × Unit))))) =>
  (some s1.2.2.1))

noncomputable def e_spec_l09Lists (a : Int × Int × Unit) : Option (List (List Int)) := r_spec_l09Lists e_spec_l03Has N0 a.1 a.2.1
def r_spec_l09Rim_L0 (_N : Nat) (s : ((List Int) × ((List Int) × (Int × Unit)))) (kc ke : ((List Int) × ((List Int) × (Int × Unit))) → Option (List Int)) : Option (List Int) :=
  (cond (decide (s.2.2.1 ≥ (0 : Int)))
    (Option.bind (getI s.1 s.2.2.1) fun (x1 : Int) =>
    (cond (Nat.ble ((List.length s.2.1) + (List.length (x1 :: ([] : List Int)))) 17179869184)
      (kc (s.1, ((s.2.1 ++ (x1 :: ([] : List Int))), ((wr (s.2.2.1 - (1 : Int))), ()))))
      none))
    (ke (s.1, (s.2.1, (s.2.2.1, ())))))
def r_spec_l09Rim (N : Nat) (a0 : (List Int)) (a1 : (List Int)) : Option (List Int) :=
  (cond (Nat.ble ((List.length ([] : List Int)) + (List.length a0)) 17179869184)
    (iterK (r_spec_l09Rim_L0 N) N (a1, ((([] : List Int) ++ a0), ((wr ((((List.length a1) : Nat) : Int) - (1 : Int))), ()))) fun (s1 : ((List Int) × ((List Int) × (Int × Unit)))) =>
    (some s1.2.1))
    none)

noncomputable def e_spec_l09Rim (a : (List Int) × (List Int) × Unit) : Option (List Int) := r_spec_l09Rim N0 a.1 a.2.1
def r_spec_IsCircular_L0 (c_spec_l01In : (Int × Int × Int × Unit → Option Bool)) (_c_spec_l09Rim : ((List Int) × (List Int) × Unit → Option (List Int))) (c_spec_l03Has : ((List Int) × Int × Unit → Option Bool)) (_N : Nat) (s : (Int × ((List Int) × (Int × ((List Int) × (Int × (Int × Unit))))))) (kc ke : (Int × ((List Int) × (Int × ((List Int) × (Int × (Int × Unit)))))) → Option Bool) : Option Bool :=
  (cond (decide (s.2.2.2.2.2.1 < s.2.2.2.2.1))
    (Option.bind (getI s.2.2.2.1 s.2.2.2.2.2.1) fun (x1 : Int) =>
    (Option.bind (c_spec_l01In (x1, ((0 : Int), ((wr (s.1 - (1 : Int))), ())))) fun (x2 : Bool) =>
    (cond (!x2)
      (some false)
      (cond (decide ((0 : Int) ≤ s.2.2.2.2.2.1))
        (cond (decide (s.2.2.2.2.2.1 ≤ (((List.length s.2.1) : Nat) : Int)))
          (Option.bind (c_spec_l03Has ((List.take ((Int.toNat s.2.2.2.2.2.1) - (Int.toNat (0 : Int))) (List.drop (Int.toNat (0 : Int)) s.2.1)), (x1, ()))) fun (x3 : Bool) =>
          (cond x3
            (some false)
            (cond (decide ((((List.length s.2.1) : Nat) : Int) = (0 : Int)))
              none
              (Option.bind (getI s.2.1 (Int.tmod (wr (s.2.2.2.2.2.1 + (1 : Int))) (((List.length s.2.1) : Nat) : Int))) fun (x4 : Int) =>
              (cond (decide (x4 < x1))
                (kc (s.1, (s.2.1, ((wr (s.2.2.1 + (1 : Int))), (s.2.2.2.1, (s.2.2.2.2.1, ((wr (s.2.2.2.2.2.1 + (1 : Int))), ())))))))
                (kc (s.1, (s.2.1, (s.2.2.1, (s.2.2.2.1, (s.2.2.2.2.1, ((wr (s.2.2.2.2.2.1 + (1 : Int))), ()))))))))))))
          none)
        none))))
    (ke (s.1, (s.2.1, (s.2.2.1, (s.2.2.2.1, (s.2.2.2.2.1, (s.2.2.2.2.2.1, ()))))))))
def r_spec_IsCircular (c_spec_l01In : (Int × Int × Int × Unit → Option Bool)) (c_spec_l09Rim : ((List Int) × (List Int) × Unit → Option (List Int))) (c_spec_l03Has : ((List Int) × Int × Unit → Option Bool)) (N : Nat) (a0 : Int) (a1 : (List Int)) (a2 : (List Int)) : Option Bool :=
  (Option.bind (c_spec_l01In (a0, ((1 : Int), ((5 : Int), ())))) fun (x1 : Bool) =>
  (cond (!x1)
    (some false)
    (cond (!(decide ((((List.length a1) : Nat) : Int) = (((List.length a2) : Nat) : Int))))
      (some false)
      (cond (decide ((((List.length a1) : Nat) : Int) = (0 : Int)))
        (some false)
        (Option.bind (c_spec_l09Rim (a1, (a2, ()))) fun (x2 : (List Int)) =>
        (iterK (r_spec_IsCircular_L0 c_spec_l01In c_spec_l09Rim c_spec_l03Has N) N (a0, (x2, ((0 : Int), (x2, ((((List.length x2) : Nat) : Int), ((0 : Int), ())))))) fun (s3 : (Int × ((List Int) × (Int × ((List Int) × (Int × (Int × Unit))))))) =>
        (some (decide (s3.2.2.1 = (1 : Int))))))))))

noncomputable def e_spec_IsCircular (a : Int × (List Int) × (List Int) × Unit) : Option Bool := r_spec_IsCircular e_spec_l01In e_spec_l09Rim e_spec_l03Has N0 a.1 a.2.1 a.2.2.1
def r_spec_CircularPairs_L4 (_c_spec_l01In : (Int × Int × Int × Unit → Option Bool)) (_c_spec_l09Lists : (Int × Int × Unit → Option (List (List Int)))) (c_spec_IsCircular : (Int × (List Int) × (List Int) × Unit → Option Bool)) (_N : Nat) (s : (Int × ((List (List (List Int))) × (Int × ((List (List Int)) × ((List Int) × ((List (List Int)) × (Int × (Int × ((List (List Int)) × (Int × (Int × Unit)))))))))))) (kc ke : (Int × ((List (List (List Int))) × (Int × ((List (List Int)) × ((List Int) × ((List (List Int)) × (Int × (Int × ((List (List Int)) × (Int × (Int × Unit))))))))))) → Option (List (List (List Int)))) : Option (List (List (List Int))) :=
  (cond (decide (s.2.2.2.2.2.2.2.2.2.2.1 < s.2.2.2.2.2.2.2.2.2.1))
    (Option.bind (getI s.2.2.2.2.2.2.2.2.1 s.2.2.2.2.2.2.2.2.2.2.1) fun (x1 : (List Int)) =>
    (Option.bind (c_spec_IsCircular (s.1, (s.2.2.2.2.1, (x1, ())))) fun (x2 : Bool) =>
    (cond x2
      (cond (Nat.ble ((List.length ([] : List Int)) + (List.length s.2.2.2.2.1)) 17179869184)
        (cond (Nat.ble ((List.length ([] : List Int)) + (List.length x1)) 17179869184)
          (cond (Nat.ble ((List.length s.2.1) + (List.length (((([] : List Int) ++ s.2.2.2.2.1) :: ((([] : List Int) ++ x1) :: ([] : List (List Int)))) :: ([] : List (List (List Int)))))) 17179869184)
            (kc (s.1, ((s.2.1 ++ (((([] : List Int) ++ s.2.2.2.2.1) :: ((([] : List Int) ++ x1) :: ([] : List (List Int)))) :: ([] : List (List (List Int))))), (s.2.2.1, (s.2.2.2.1, (s.2.2.2.2.1, (s.2.2.2.2.2.1, (s.2.2.2.2.2.2.1, (s.2.2.2.2.2.2.2.1, (s.2.2.2.2.2.2.2.2.1, (s.2.2.2.2.2.2.2.2.2.1, ((wr (s.2.2.2.2.2.2.2.2.2.2.1 + (1 : Int))), ()))))))))))))
            none)
          none)
        none)
      (kc (s.1, (s.2.1, (s.2.2.1, (s.2.2.2.1, (s.2.2.2.2.1, (s.2.2.2.2.2.1, (s.2.2.2.2.2.2.1, (s.2.2.2.2.2.2.2.1, (s.2.2.2.2.2.2.2.2.1, (s.2.2.2.2.2.2.2.2.2.1, ((wr (s.2.2.2.2.2.2.2.2.2.2.1 + (1 : Int))), ())))))))))))))))
    (ke (s.1, (s.2.1, (s.2.2.1, (s.2.2.2.1, (s.2.2.2.2.1, (s.2.2.2.2.2.1, (s.2.2.2.2.2.2.1, (s.2.2.2.2.2.2.2.1, (s.2.2.2.2.2.2.2.2.1, (s.2.2.2.2.2.2.2.2.2.1, (s.2.2.2.2.2.2.2.2.2.2.1, ())))))))))))))
def r_spec_CircularPairs_L2 (c_spec_l01In : (Int × Int × Int × Unit → Option Bool)) (c_spec_l09Lists : (Int × Int × Unit → Option (List (List Int)))) (c_spec_IsCircular : (Int × (List Int) × (List Int) × Unit → Option Bool)) (N : Nat) (s : (Int × ((List (List (List Int))) × (Int × ((List (List Int)) × ((List (List Int)) × (Int × (Int × Unit)))))))) (kc ke : (Int × ((List (List (List Int))) × (Int × ((List (List Int)) × ((List (List Int)) × (Int × (Int × Unit))))))) → Option (List (List (List Int)))) : Option (List (List (List Int))) :=
  (cond (decide (s.2.2.2.2.2.2.1 < s.2.2.2.2.2.1))
    (Option.bind (getI s.2.2.2.2.1 s.2.2.2.2.2.2.1) fun (x1 : (List Int)) =>
    (iterK (r_spec_CircularPairs_L4 c_spec_l01In c_spec_l09Lists c_spec_IsCircular N) N (s.1, (s.2.1, (s.2.2.1, (s.2.2.2.1, (x1, (s.2.2.2.2.1, (s.2.2.2.2.2.1, (s.2.2.2.2.2.2.1, (s.2.2.2.1, ((((List.length s.2.2.2.1) : Nat) : Int), ((0 : Int), ()))))))))))) fun (s2 : (Int × ((List (List (List Int))) × (Int × ((List (List Int)) × ((List Int) × ((List (List Int)) × (Int × (Int × ((List (List Int)) × (Int × (Int × Unit)))))))))))) =>
    (kc (s2.1, (s2.2.1, (s2.2.2.1, (s2.2.2.2.1, (s2.2.2.2.2.2.1, (s2.2.2.2.2.2.2.1, ((wr (s2.2.2.2.2.2.2.2.1 + (1 : Int))), ()))))))))))
    (ke (s.1, (s.2.1, (s.2.2.1, (s.2.2.2.1, (s.2.2.2.2.1, (s.2.2.2.2.2.1, (s.2.2.2.2.2.2.1, ())))))))))
def r_spec_CircularPairs_L0 (c_spec_l01In : (Int × Int × Int × Unit → Option Bool)) (c_spec_l09Lists : (Int × Int × Unit → Option (List (List Int)))) (c_spec_IsCircular : (Int × (List Int) × (List Int) × Unit → Option Bool)) (N : Nat) (s : (Int × ((List (List (List Int))) × (Int × Unit)))) (kc ke : (Int × ((List (List (List Int))) × (Int × Unit))) → Option (List (List (List Int)))) : Option (List (List (List Int))) :=
  (cond (decide ((wr ((2 : Int) * s.2.2.1)) ≤ s.1))
    (Option.bind (c_spec_l09Lists (s.1, (s.2.2.1, ()))) fun (x1 : (List (List Int))) =>
    (iterK (r_spec_CircularPairs_L2 c_spec_l01In c_spec_l09Lists c_spec_IsCircular N) N (s.1, (s.2.1, (s.2.2.1, (x1, (x1, ((((List.length x1) : Nat) : Int), ((0 : Int), ()))))))) fun (s2 : (Int × ((List (List (List Int))) × (Int × ((List (List Int)) × ((List (List Int)) × (Int × (Int × Unit)))))))) =>
    (kc (s2.1, (s2.2.1, ((wr (s2.2.2.1 + (1 : Int))), ()))))))
    (ke (s.1, (s.2.1, (s.2.2.1, ())))))
def r_spec_CircularPairs (c_spec_l01In : (Int × Int × Int × Unit → Option Bool)) (c_spec_l09Lists : (Int × Int × Unit → Option (List (List Int)))) (c_spec_IsCircular : (Int × (List Int) × (List Int) × Unit → Option Bool)) (N : Nat) (a0 : Int) : Option (List (List (List Int))) :=
  (Option.bind (c_spec_l01In (a0, ((1 : Int), ((5 : Int), ())))) fun (x1 : Bool) =>
  (cond (!x1)
    (some ([] : List (List (List Int))))
    (iterK (r_spec_CircularPairs_L0 c_spec_l01In c_spec_l09Lists c_spec_IsCircular N) N (a0, (([] : List (List (List Int))), ((1 : Int), ()))) fun (s2 : (Int × ((List (List (List Int))) × (Int × Unit)))) =>
    (some s2.2.1))))

noncomputable def e_spec_CircularPairs (a : Int × Unit) : Option (List (List (List Int))) := r_spec_CircularPairs e_spec_l01In e_spec_l09Lists e_spec_IsCircular N0 a.1
def r_spec_l09Negative_L2 (_N : Nat) (s : ((List (List Int)) × ((List Int) × ((List (List Int)) × (Int × ((List Int) × ((List Int) × (Int × (Int × ((List Int) × (Int × (Int × Unit)))))))))))) (kc ke : ((List (List Int)) × ((List Int) × ((List (List Int)) × (Int × ((List Int) × ((List Int) × (Int × (Int × ((List Int) × (Int × (Int × Unit))))))))))) → Option (List (List Int))) : Option (List (List Int)) :=
  (cond (decide (s.2.2.2.2.2.2.2.2.2.2.1 < s.2.2.2.2.2.2.2.2.2.1))
    (Option.bind (getI s.2.2.2.2.2.2.2.2.1 s.2.2.2.2.2.2.2.2.2.2.1) fun (x1 : Int) =>
    (Option.bind (getI s.1 s.2.2.2.1) fun (x2 : (List Int)) =>
    (Option.bind (getI x2 x1) fun (x3 : Int) =>
    (cond (Nat.ble ((List.length s.2.2.2.2.1) + (List.length ((wr ((0 : Int) - x3)) :: ([] : List Int)))) 17179869184)
      (kc (s.1, (s.2.1, (s.2.2.1, (s.2.2.2.1, ((s.2.2.2.2.1 ++ ((wr ((0 : Int) - x3)) :: ([] : List Int))), (s.2.2.2.2.2.1, (s.2.2.2.2.2.2.1, (s.2.2.2.2.2.2.2.1, (s.2.2.2.2.2.2.2.2.1, (s.2.2.2.2.2.2.2.2.2.1, ((wr (s.2.2.2.2.2.2.2.2.2.2.1 + (1 : Int))), ()))))))))))))
      none))))
    (ke (s.1, (s.2.1, (s.2.2.1, (s.2.2.2.1, (s.2.2.2.2.1, (s.2.2.2.2.2.1, (s.2.2.2.2.2.2.1, (s.2.2.2.2.2.2.2.1, (s.2.2.2.2.2.2.2.2.1, (s.2.2.2.2.2.2.2.2.2.1, (s.2.2.2.2.2.2.2.2.2.2.1, ())))))))))))))
def r_spec_l09Negative_L0 (N : Nat) (s : ((List (List Int)) × ((List Int) × ((List (List Int)) × ((List Int) × (Int × (Int × Unit))))))) (kc ke : ((List (List Int)) × ((List Int) × ((List (List Int)) × ((List Int) × (Int × (Int × Unit)))))) → Option (List (List Int))) : Option (List (List Int)) :=
  (cond (decide (s.2.2.2.2.2.1 < s.2.2.2.2.1))
    (Option.bind (getI s.2.2.2.1 s.2.2.2.2.2.1) fun (x1 : Int) =>
    (iterK (r_spec_l09Negative_L2 N) N (s.1, (s.2.1, (s.2.2.1, (x1, (([] : List Int), (s.2.2.2.1, (s.2.2.2.2.1, (s.2.2.2.2.2.1, (s.2.1, ((((List.length s.2.1) : Nat) : Int), ((0 : Int), ()))))))))))) fun (s2 : ((List (List Int)) × ((List Int) × ((List (List Int)) × (Int × ((List Int) × ((List Int) × (Int × (Int × ((List Int) × (Int × (Int × Unit)))))))))))) =>
    (cond (Nat.ble ((List.length s2.2.2.1) + (List.length (s2.2.2.2.2.1 :: ([] : List (List Int))))) 17179869184)
      (kc (s2.1, (s2.2.1, ((s2.2.2.1 ++ (s2.2.2.2.2.1 :: ([] : List (List Int)))), (s2.2.2.2.2.2.1, (s2.2.2.2.2.2.2.1, ((wr (s2.2.2.2.2.2.2.2.1 + (1 : Int))), ())))))))
      none)))
    (ke (s.1, (s.2.1, (s.2.2.1, (s.2.2.2.1, (s.2.2.2.2.1, (s.2.2.2.2.2.1, ()))))))))
def r_spec_l09Negative (N : Nat) (a0 : (List (List Int))) (a1 : (List Int)) (a2 : (List Int)) : Option (List (List Int)) :=
  (iterK (r_spec_l09Negative_L0 N) N (a0, (a2, (([] : List (List Int)), (a1, ((((List.length a1) : Nat) : Int), ((0 : Int), ())))))) fun (s1 : ((List (List Int)) × ((List Int) × ((List (List Int)) × ((List Int) × (Int × (Int × Unit))))))) =>
  (some s1.2.2.1))

noncomputable def e_spec_l09Negative (a : (List (List Int)) × (List Int) × (List Int) × Unit) : Option (List (List Int)) := r_spec_l09Negative N0 a.1 a.2.1 a.2.2.1
def r_spec_l04Det_L0 (c_spec_l04Det : ((List (List Int)) × (List Int) × (List Int) × Unit → Option Int)) (_N : Nat) (s : ((List (List Int)) × ((List Int) × ((List Int) × (Int × (Int × ((List Int) × (Int × (Int × Unit))))))))) (kc ke : ((List (List Int)) × ((List Int) × ((List Int) × (Int × (Int × ((List Int) × (Int × (Int × Unit)))))))) → Option Int) : Option Int :=
  (cond (decide (s.2.2.2.2.2.2.2.1 < s.2.2.2.2.2.2.1))
    (Option.bind (getI s.2.2.2.2.2.1 s.2.2.2.2.2.2.2.1) fun (x1 : Int) =>
    (Option.bind (getI s.2.1 (0 : Int)) fun (x2 : Int) =>
    (Option.bind (getI s.1 x2) fun (x3 : (List Int)) =>
    (Option.bind (getI x3 x1) fun (x4 : Int) =>
    (cond (!(decide (x4 = (0 : Int))))
      (cond (decide ((0 : Int) ≤ s.2.2.2.2.2.2.2.1))
        (cond (decide (s.2.2.2.2.2.2.2.1 ≤ (((List.length s.2.2.1) : Nat) : Int)))
          (cond (Nat.ble ((List.length ([] : List Int)) + (List.length (List.take ((Int.toNat s.2.2.2.2.2.2.2.1) - (Int.toNat (0 : Int))) (List.drop (Int.toNat (0 : Int)) s.2.2.1)))) 17179869184)
            (cond (decide ((0 : Int) ≤ (wr (s.2.2.2.2.2.2.2.1 + (1 : Int)))))
              (cond (decide ((wr (s.2.2.2.2.2.2.2.1 + (1 : Int))) ≤ (((List.length s.2.2.1) : Nat) : Int)))
                (cond (decide ((((List.length s.2.2.1) : Nat) : Int) ≤ (((List.length s.2.2.1) : Nat) : Int)))
                  (cond (Nat.ble ((List.length (([] : List Int) ++ (List.take ((Int.toNat s.2.2.2.2.2.2.2.1) - (Int.toNat (0 : Int))) (List.drop (Int.toNat (0 : Int)) s.2.2.1)))) + (List.length (List.take ((Int.toNat (((List.length s.2.2.1) : Nat) : Int)) - (Int.toNat (wr (s.2.2.2.2.2.2.2.1 + (1 : Int))))) (List.drop (Int.toNat (wr (s.2.2.2.2.2.2.2.1 + (1 : Int)))) s.2.2.1)))) 17179869184)
                    (cond (decide ((1 : Int) ≤ (((List.length s.2.1) : Nat) : Int)))
                      (cond (decide ((((List.length s.2.1) : Nat) : Int) ≤ (((List.length s.2.1) : Nat) : Int)))
                        (Option.bind (c_spec_l04Det (s.1, ((List.take ((Int.toNat (((List.length s.2.1) : Nat) : Int)) - (Int.toNat (1 : Int))) (List.drop (Int.toNat (1 : Int)) s.2.1)), (((([] : List Int) ++ (List.take ((Int.toNat s.2.2.2.2.2.2.2.1) - (Int.toNat (0 : Int))) (List.drop (Int.toNat (0 : Int)) s.2.2.1))) ++ (List.take ((Int.toNat (((List.length s.2.2.1) : Nat) : Int)) - (Int.toNat (wr (s.2.2.2.2.2.2.2.1 + (1 : Int))))) (List.drop (Int.toNat (wr (s.2.2.2.2.2.2.2.1 + (1 : Int)))) s.2.2.1))), ())))) fun (x5 : Int) =>
                        (kc (s.1, (s.2.1, (s.2.2.1, ((wr (s.2.2.2.1 + (wr ((wr (s.2.2.2.2.1 * x4)) * x5)))), ((wr ((0 : Int) - s.2.2.2.2.1)), (s.2.2.2.2.2.1, (s.2.2.2.2.2.2.1, ((wr (s.2.2.2.2.2.2.2.1 + (1 : Int))), ()))))))))))
                        none)
                      none)
                    none)
                  none)
                none)
              none)
            none)
          none)
        none)
      (kc (s.1, (s.2.1, (s.2.2.1, (s.2.2.2.1, ((wr ((0 : Int) - s.2.2.2.2.1)), (s.2.2.2.2.2.1, (s.2.2.2.2.2.2.1, ((wr (s.2.2.2.2.2.2.2.1 + (1 : Int))), ()))))))))))))))
    (ke (s.1, (s.2.1, (s.2.2.1, (s.2.2.2.1, (s.2.2.2.2.1, (s.2.2.2.2.2.1, (s.2.2.2.2.2.2.1, (s.2.2.2.2.2.2.2.1, ()))))))))))
def r_spec_l04Det (c_spec_l04Det : ((List (List Int)) × (List Int) × (List Int) × Unit → Option Int)) (N : Nat) (a0 : (List (List Int))) (a1 : (List Int)) (a2 : (List Int)) : Option Int :=
  (cond (decide ((((List.length a1) : Nat) : Int) = (0 : Int)))
    (some (1 : Int))
    (iterK (r_spec_l04Det_L0 c_spec_l04Det N) N (a0, (a1, (a2, ((0 : Int), ((1 : Int), (a2, ((((List.length a2) : Nat) : Int), ((0 : Int), ())))))))) fun (s1 : ((List (List Int)) × ((List Int) × ((List Int) × (Int × (Int × ((List Int) × (Int × (Int × Unit))))))))) =>
    (some s1.2.2.2.1)))

noncomputable def e_spec_l04Det_n : Nat → ((List (List Int)) × (List Int) × (List Int) × Unit) → Option Int
  | 0, _ => none
  | n + 1, a => r_spec_l04Det (e_spec_l04Det_n n) N0 a.1 a.2.1 a.2.2.1
noncomputable def e_spec_l04Det (a : (List (List Int)) × (List Int) × (List Int) × Unit) : Option Int := e_spec_l04Det_n N0 a
def r_spec_l09Det_L0 (_c_spec_l04Det : ((List (List Int)) × (List Int) × (List Int) × Unit → Option Int)) (_N : Nat) (s : ((List (List Int)) × ((List Int) × (Int × (Int × Unit))))) (kc ke : ((List (List Int)) × ((List Int) × (Int × (Int × Unit)))) → Option Int) : Option Int :=
  (cond (decide (s.2.2.2.1 < s.2.2.1))
    (cond (Nat.ble ((List.length s.2.1) + (List.length (s.2.2.2.1 :: ([] : List Int)))) 17179869184)
      (kc (s.1, ((s.2.1 ++ (s.2.2.2.1 :: ([] : List Int))), (s.2.2.1, ((wr (s.2.2.2.1 + (1 : Int))), ())))))
      none)
    (ke (s.1, (s.2.1, (s.2.2.1, (s.2.2.2.1, ()))))))
def r_spec_l09Det (c_spec_l04Det : ((List (List Int)) × (List Int) × (List Int) × Unit → Option Int)) (N : Nat) (a0 : (List (List Int))) : Option Int :=
  (iterK (r_spec_l09Det_L0 c_spec_l04Det N) N (a0, (([] : List Int), ((((List.length a0) : Nat) : Int), ((0 : Int), ())))) fun (s1 : ((List (List Int)) × ((List Int) × (Int × (Int × Unit))))) =>
  (Option.bind (c_spec_l04Det (s1.1, (s1.2.1, (s1.2.1, ())))) fun (x2 : Int) =>
  (some x2)))

noncomputable def e_spec_l09Det (a : (List (List Int)) × Unit) : Option Int := r_spec_l09Det e_spec_l04Det N0 a.1
def r_spec_PlanarReason_L0 (_c_spec_IsWeightMatrix : ((List (List Int)) × Unit → Option Bool)) (_c_spec_CircularPairs : (Int × Unit → Option (List (List (List Int))))) (c_spec_l09Negative : ((List (List Int)) × (List Int) × (List Int) × Unit → Option (List (List Int)))) (c_spec_l09Det : ((List (List Int)) × Unit → Option Int)) (_N : Nat) (s : ((List (List Int)) × ((List (List (List Int))) × (Int × (Int × Unit))))) (kc ke : ((List (List Int)) × ((List (List (List Int))) × (Int × (Int × Unit)))) → Option (List (List Int))) : Option (List (List Int)) :=
  (cond (decide (s.2.2.2.1 < s.2.2.1))
    (Option.bind (getI s.2.1 s.2.2.2.1) fun (x1 : (List (List Int))) =>
    (Option.bind (getI x1 (0 : Int)) fun (x2 : (List Int)) =>
    (Option.bind (getI x1 (1 : Int)) fun (x3 : (List Int)) =>
    (Option.bind (c_spec_l09Negative (s.1, (x2, (x3, ())))) fun (x4 : (List (List Int))) =>
    (Option.bind (c_spec_l09Det (x4, ())) fun (x5 : Int) =>
    (cond (decide (x5 < (0 : Int)))
      (some x1)
      (kc (s.1, (s.2.1, (s.2.2.1, ((wr (s.2.2.2.1 + (1 : Int))), ())))))))))))
    (ke (s.1, (s.2.1, (s.2.2.1, (s.2.2.2.1, ()))))))
def r_spec_PlanarReason (c_spec_IsWeightMatrix : ((List (List Int)) × Unit → Option Bool)) (c_spec_CircularPairs : (Int × Unit → Option (List (List (List Int))))) (c_spec_l09Negative : ((List (List Int)) × (List Int) × (List Int) × Unit → Option (List (List Int)))) (c_spec_l09Det : ((List (List Int)) × Unit → Option Int)) (N : Nat) (a0 : (List (List Int))) : Option (List (List Int)) :=
  (Option.bind (c_spec_IsWeightMatrix (a0, ())) fun (x1 : Bool) =>
  (cond (!x1)
    (some ([] : List (List Int)))
    (Option.bind (c_spec_CircularPairs ((((List.length a0) : Nat) : Int), ())) fun (x2 : (List (List (List Int)))) =>
    (iterK (r_spec_PlanarReason_L0 c_spec_IsWeightMatrix c_spec_CircularPairs c_spec_l09Negative c_spec_l09Det N) N (a0, (x2, ((((List.length x2) : Nat) : Int), ((0 : Int), ())))) fun (_s3 : ((List (List Int)) × ((List (List (List Int))) × (Int × (Int × Unit))))) =>
    (some ([] : List (List Int)))))))

noncomputable def e_spec_PlanarReason (a : (List (List Int)) × Unit) : Option (List (List Int)) := r_spec_PlanarReason e_spec_IsWeightMatrix e_spec_CircularPairs e_spec_l09Negative e_spec_l09Det N0 a.1
def r_spec_IsPlanarMatrix (c_spec_IsWeightMatrix : ((List (List Int)) × Unit → Option Bool)) (c_spec_PlanarReason : ((List (List Int)) × Unit → Option (List (List Int)))) (_N : Nat) (a0 : (List (List Int))) : Option Bool :=
  (Option.bind (c_spec_IsWeightMatrix (a0, ())) fun (x1 : Bool) =>
  (cond x1
    (Option.bind (c_spec_PlanarReason (a0, ())) fun (x2 : (List (List Int))) =>
    (some (decide ((((List.length x2) : Nat) : Int) = (0 : Int)))))
    (some false)))

noncomputable def e_spec_IsPlanarMatrix (a : (List (List Int)) × Unit) : Option Bool := r_spec_IsPlanarMatrix e_spec_IsWeightMatrix e_spec_PlanarReason N0 a.1
def r_impl_squareOk_L2 (_N : Nat) (s : ((List (List Int)) × ((List (List Int)) × (Int × (Int × ((List Int) × (Int × (Int × Unit)))))))) (kc ke : ((List (List Int)) × ((List (List Int)) × (Int × (Int × ((List Int) × (Int × (Int × Unit))))))) → Option Bool) : Option Bool :=
  (cond (decide (s.2.2.2.2.2.2.1 < s.2.2.2.2.2.1))
    (Option.bind (getI s.2.2.2.2.1 s.2.2.2.2.2.2.1) fun (x1 : Int) =>
    (cond (decide (x1 < (-(1000 : Int))))
      (some false)
      (cond (decide (x1 > (1000 : Int)))
        (some false)
        (kc (s.1, (s.2.1, (s.2.2.1, (s.2.2.2.1, (s.2.2.2.2.1, (s.2.2.2.2.2.1, ((wr (s.2.2.2.2.2.2.1 + (1 : Int))), ())))))))))))
    (ke (s.1, (s.2.1, (s.2.2.1, (s.2.2.2.1, (s.2.2.2.2.1, (s.2.2.2.2.2.1, (s.2.2.2.2.2.2.1, ())))))))))
def r_impl_squareOk_L0 (N : Nat) (s : ((List (List Int)) × ((List (List Int)) × (Int × (Int × Unit))))) (kc ke : ((List (List Int)) × ((List (List Int)) × (Int × (Int × Unit)))) → Option Bool) : Option Bool :=
  (cond (decide (s.2.2.2.1 < s.2.2.1))
    (Option.bind (getI s.2.1 s.2.2.2.1) fun (x1 : (List Int)) =>
    (cond (!(decide ((((List.length x1) : Nat) : Int) = (((List.length s.1) : Nat) : Int))))
      (some false)
      (iterK (r_impl_squareOk_L2 N) N (s.1, (s.2.1, (s.2.2.1, (s.2.2.2.1, (x1, ((((List.length x1) : Nat) : Int), ((0 : Int), ()))))))) fun (s2 : ((List (List Int)) × ((List (List Int)) × (Int × (Int × ((List Int) × (Int × (Int × Unit)))))))) =>
      (kc (s2.1, (s2.2.1, (s2.2.2.1, ((wr (s2.2.2.2.1 + (1 : Int))), ()))))))))
    (ke (s.1, (s.2.1, (s.2.2.1, (s.2.2.2.1, ()))))))
def r_impl_squareOk (N : Nat) (a0 : (List (List Int))) : Option Bool :=
  (cond (decide ((((List.length a0) : Nat) : Int) > (5 : Int)))
    (some false)
    (iterK (r_impl_squareOk_L0 N) N (a0, (a0, ((((List.length a0) : Nat) : Int), ((0 : Int), ())))) fun (_s1 : ((List (List Int)) × ((List (List Int)) × (Int × (Int × Unit))))) =>
    (some true)))

noncomputable def e_impl_squareOk (a : (List (List Int)) × Unit) : Option Bool := r_impl_squareOk N0 a.1
def r_impl_IsWeightMatrix_L2 (_c_impl_squareOk : ((List (List Int)) × Unit → Option Bool)) (_N : Nat) (s : ((List (List Int)) × (Int × (Int × ((List (List Int)) × (Int × (Int × ((List Int) × (Int × (Int × Unit)))))))))) (kc ke : ((List (List Int)) × (Int × (Int × ((List (List Int)) × (Int × (Int × ((List Int) × (Int × (Int × Unit))))))))) → Option Bool) : Option Bool :=
  (cond (decide (s.2.2.2.2.2.2.2.2.1 < s.2.2.2.2.2.2.2.1))
    (Option.bind (getI s.2.2.2.2.2.2.1 s.2.2.2.2.2.2.2.2.1) fun (x1 : Int) =>
    (Option.bind (getI s.1 s.2.2.2.2.2.2.2.2.1) fun (x2 : (List Int)) =>
    (Option.bind (getI x2 s.2.1) fun (x3 : Int) =>
    (cond (!(decide (x1 = x3)))
      (some false)
      (cond (!(decide (s.2.1 = s.2.2.2.2.2.2.2.2.1)))
        (cond (decide (x1 > (0 : Int)))
          (some false)
          (kc (s.1, (s.2.1, ((wr (s.2.2.1 + x1)), (s.2.2.2.1, (s.2.2.2.2.1, (s.2.2.2.2.2.1, (s.2.2.2.2.2.2.1, (s.2.2.2.2.2.2.2.1, ((wr (s.2.2.2.2.2.2.2.2.1 + (1 : Int))), ())))))))))))
        (kc (s.1, (s.2.1, ((wr (s.2.2.1 + x1)), (s.2.2.2.1, (s.2.2.2.2.1, (s.2.2.2.2.2.1, (s.2.2.2.2.2.2.1, (s.2.2.2.2.2.2.2.1, ((wr (s.2.2.2.2.2.2.2.2.1 + (1 : Int))), ())))))))))))))))
    (ke (s.1, (s.2.1, (s.2.2.1, (s.2.2.2.1, (s.2.2.2.2.1, (s.2.2.2.2.2.1, (s.2.2.2.2.2.2.1, (s.2.2.2.2.2.2.2.1, (s.2.2.2.2.2.2.2.2.1, ())))))))))))
def r_impl_IsWeightMatrix_L0 (c_impl_squareOk : ((List (List Int)) × Unit → Option Bool)) (N : Nat) (s : ((List (List Int)) × ((List (List Int)) × (Int × (Int × Unit))))) (kc ke : ((List (List Int)) × ((List (List Int)) × (Int × (Int × Unit)))) → Option Bool) : Option Bool :=
  (cond (decide (s.2.2.2.1 < s.2.2.1))
    (Option.bind (getI s.2.1 s.2.2.2.1) fun (x1 : (List Int)) =>
    (iterK (r_impl_IsWeightMatrix_L2 c_impl_squareOk N) N (s.1, (s.2.2.2.1, ((0 : Int), (s.2.1, (s.2.2.1, (s.2.2.2.1, (x1, ((((List.length x1) : Nat) : Int), ((0 : Int), ()))))))))) fun (s2 : ((List (List Int)) × (Int × (Int × ((List (List Int)) × (Int × (Int × ((List Int) × (Int × (Int × Unit)))))))))) =>
    (cond (!(decide (s2.2.2.1 = (0 : Int))))
      (some false)
      (kc (s2.1, (s2.2.2.2.1, (s2.2.2.2.2.1, ((wr (s2.2.2.2.2.2.1 + (1 : Int))), ()))))))))
    (ke (s.1, (s.2.1, (s.2.2.1, (s.2.2.2.1, ()))))))
def r_impl_IsWeightMatrix (c_impl_squareOk : ((List (List Int)) × Unit → Option Bool)) (N : Nat) (a0 : (List (List Int))) : Option Bool :=
  (cond (decide ((((List.length a0) : Nat) : Int) < (1 : Int)))
    (some false)
    (Option.bind (c_impl_squareOk (a0, ())) fun (x1 : Bool) =>
    (cond (!x1)
      (some false)
      (iterK (r_impl_IsWeightMatrix_L0 c_impl_squareOk N) N (a0, (a0, ((((List.length a0) : Nat) : Int), ((0 : Int), ())))) fun (_s2 : ((List (List Int)) × ((List (List Int)) × (Int × (Int × Unit))))) =>
      (some true)))))

noncomputable def e_impl_IsWeightMatrix (a : (List (List Int)) × Unit) : Option Bool := r_impl_IsWeightMatrix e_impl_squareOk N0 a.1
def r_slices_Index_int_L0 (_N : Nat) (s : ((List Int) × (Int × (Int × (Int × Unit))))) (kc ke : ((List Int) × (Int × (Int × (Int × Unit)))) → Option Int) : Option Int :=
  (cond (decide (s.2.2.2.1 < s.2.2.1))
    (Option.bind (getI s.1 s.2.2.2.1) fun (x1 : Int) =>
    (cond (decide (s.2.1 = x1))
      (some s.2.2.2.1)
      (kc (s.1, (s.2.1, (s.2.2.1, ((wr (s.2.2.2.1 + (1 : Int))), ())))))))
    (ke (s.1, (s.2.1, (s.2.2.1, (s.2.2.2.1, ()))))))
def r_slices_Index_int (N : Nat) (a0 : (List Int)) (a1 : Int) : Option Int :=
  (iterK (r_slices_Index_int_L0 N) N (a0, (a1, ((((List.length a0) : Nat) : Int), ((0 : Int), ())))) fun (_s1 : ((List Int) × (Int × (Int × (Int × Unit))))) =>
  (some (-(1 : Int))))

noncomputable def e_slices_Index_int (a : (List Int) × Int × Unit) : Option Int := r_slices_Index_int N0 a.1 a.2.1
def r_slices_Contains_int (c_slices_Index_int : ((List Int) × Int × Unit → Option Int)) (_N : Nat) (a0 : (List Int)) (a1 : Int) : Option Bool :=
  (Option.bind (c_slices_Index_int (a0, (a1, ()))) fun (x1 : Int) =>
  (some (decide (x1 ≥ (0 : Int)))))

noncomputable def e_slices_Contains_int (a : (List Int) × Int × Unit) : Option Bool := r_slices_Contains_int e_slices_Index_int N0 a.1 a.2.1
noncomputable def r_slices_Clone_int (_N : Nat) (a0 : (List Int)) : Option (List Int) :=
  (cond (List.isEmpty a0)
    (agree
      (some ([] : List Int))
      (cond (Nat.ble ((List.length ([] : List Int)) + (List.length a0)) 17179869184)
        (some (([] : List Int) ++ a0))
        none))
    (cond (Nat.ble ((List.length ([] : List Int)) + (List.length a0)) 17179869184)
      (some (([] : List Int) ++ a0))
      none))

noncomputable def e_slices_Clone_int (a : (List Int) × Unit) : Option (List Int) := r_slices_Clone_int N0 a.1
def r_impl_choices_L4 (c_slices_Contains_int : ((List Int) × Int × Unit → Option Bool)) (c_slices_Clone_int : ((List Int) × Unit → Option (List Int))) (_N : Nat) (s : (Int × ((List (List Int)) × ((List Int) × (Int × (Int × ((List (List Int)) × (Int × (Int × (Int × (Int × Unit))))))))))) (kc ke : (Int × ((List (List Int)) × ((List Int) × (Int × (Int × ((List (List Int)) × (Int × (Int × (Int × (Int × Unit)))))))))) → Option (List (List Int))) : Option (List (List Int)) :=
  (cond (decide (s.2.2.2.2.2.2.2.2.2.1 < s.2.2.2.2.2.2.2.2.1))
    (Option.bind (c_slices_Contains_int (s.2.2.1, (s.2.2.2.2.2.2.2.2.2.1, ()))) fun (x1 : Bool) =>
    (cond (!x1)
      (Option.bind (c_slices_Clone_int (s.2.2.1, ())) fun (x2 : (List Int)) =>
      (cond (Nat.ble ((List.length x2) + (List.length (s.2.2.2.2.2.2.2.2.2.1 :: ([] : List Int)))) 17179869184)
        (cond (Nat.ble ((List.length s.2.1) + (List.length ((x2 ++ (s.2.2.2.2.2.2.2.2.2.1 :: ([] : List Int))) :: ([] : List (List Int))))) 17179869184)
          (kc (s.1, ((s.2.1 ++ ((x2 ++ (s.2.2.2.2.2.2.2.2.2.1 :: ([] : List Int))) :: ([] : List (List Int)))), (s.2.2.1, (s.2.2.2.1, (s.2.2.2.2.1, (s.2.2.2.2.2.1, (s.2.2.2.2.2.2.1, (s.2.2.2.2.2.2.2.1, (s.2.2.2.2.2.2.2.2.1, ((wr (s.2.2.2.2.2.2.2.2.2.1 + (1 : Int))), ())))))))))))
          none)
        none))
      (kc (s.1, (s.2.1, (s.2.2.1, (s.2.2.2.1, (s.2.2.2.2.1, (s.2.2.2.2.2.1, (s.2.2.2.2.2.2.1, (s.2.2.2.2.2.2.2.1, (s.2.2.2.2.2.2.2.2.1, ((wr (s.2.2.2.2.2.2.2.2.2.1 + (1 : Int))), ())))))))))))))
    (ke (s.1, (s.2.1, (s.2.2.1, (s.2.2.2.1, (s.2.2.2.2.1, (s.2.2.2.2.2.1, (s.2.2.2.2.2.2.1, (s.2.2.2.2.2.2.2.1, (s.2.2.2.2.2.2.2.2.1, (s.2.2.2.2.2.2.2.2.2.1, ()))))))))))))
def r_impl_choices_L2 (c_slices_Contains_int : ((List Int) × Int × Unit → Option Bool)) (c_slices_Clone_int : ((List Int) × Unit → Option (List Int))) (N : Nat) (s : (Int × ((List (List Int)) × (Int × (Int × ((List (List Int)) × (Int × (Int × Unit)))))))) (kc ke : (Int × ((List (List Int)) × (Int × (Int × ((List (List Int)) × (Int × (Int × Unit))))))) → Option (List (List Int))) : Option (List (List Int)) :=
  (cond (decide (s.2.2.2.2.2.2.1 < s.2.2.2.2.2.1))
    (Option.bind (getI s.2.2.2.2.1 s.2.2.2.2.2.2.1) fun (x1 : (List Int)) =>
    (iterK (r_impl_choices_L4 c_slices_Contains_int c_slices_Clone_int N) N (s.1, (s.2.1, (x1, (s.2.2.1, (s.2.2.2.1, (s.2.2.2.2.1, (s.2.2.2.2.2.1, (s.2.2.2.2.2.2.1, (s.1, ((0 : Int), ())))))))))) fun (s2 : (Int × ((List (List Int)) × ((List Int) × (Int × (Int × ((List (List Int)) × (Int × (Int × (Int × (Int × Unit))))))))))) =>
    (kc (s2.1, (s2.2.1, (s2.2.2.2.1, (s2.2.2.2.2.1, (s2.2.2.2.2.2.1, (s2.2.2.2.2.2.2.1, ((wr (s2.2.2.2.2.2.2.2.1 + (1 : Int))), ()))))))))))
    (ke (s.1, (s.2.1, (s.2.2.1, (s.2.2.2.1, (s.2.2.2.2.1, (s.2.2.2.2.2.1, (s.2.2.2.2.2.2.1, ())))))))))
def r_impl_choices_L0 (c_slices_Contains_int : ((List Int) × Int × Unit → Option Bool)) (c_slices_Clone_int : ((List Int) × Unit → Option (List Int))) (N : Nat) (s : (Int × ((List (List Int)) × (Int × (Int × Unit))))) (kc ke : (Int × ((List (List Int)) × (Int × (Int × Unit)))) → Option (List (List Int))) : Option (List (List Int)) :=
  (cond (decide (s.2.2.2.1 < s.2.2.1))
    (iterK (r_impl_choices_L2 c_slices_Contains_int c_slices_Clone_int N) N (s.1, (([] : List (List Int)), (s.2.2.1, (s.2.2.2.1, (s.2.1, ((((List.length s.2.1) : Nat) : Int), ((0 : Int), ()))))))) fun (s1 : (Int × ((List (List Int)) × (Int × (Int × ((List (List Int)) × (Int × (Int × Unit)))))))) =>
    (kc (s1.1, (s1.2.1, (s1.2.2.1, ((wr (s1.2.2.2.1 + (1 : Int))), ()))))))
    (ke (s.1, (s.2.1, (s.2.2.1, (s.2.2.2.1, ()))))))
def r_impl_choices (c_slices_Contains_int : ((List Int) × Int × Unit → Option Bool)) (c_slices_Clone_int : ((List Int) × Unit → Option (List Int))) (N : Nat) (a0 : Int) (a1 : Int) : Option (List (List Int)) :=
  (iterK (r_impl_choices_L0 c_slices_Contains_int c_slices_Clone_int N) N (a0, ((([] : List Int) :: ([] : List (List Int))), (a1, ((0 : Int), ())))) fun (s1 : (Int × ((List (List Int)) × (Int × (Int × Unit))))) =>
  (some s1.2.1))

noncomputable def e_impl_choices (a : Int × Int × Unit) : Option (List (List Int)) := r_impl_choices e_slices_Contains_int e_slices_Clone_int N0 a.1 a.2.1
noncomputable def e_slices_Reverse_int (y : List Int) (a : Unit) : Option (List Int × Unit) := revFn y a

def r_impl_indicesOk_L0 (c_slices_Contains_int : ((List Int) × Int × Unit → Option Bool)) (_N : Nat) (s : ((List Int) × (Int × ((List Int) × (Int × (Int × Unit)))))) (kc ke : ((List Int) × (Int × ((List Int) × (Int × (Int × Unit))))) → Option Bool) : Option Bool :=
  (cond (decide (s.2.2.2.2.1 < s.2.2.2.1))
    (Option.bind (getI s.2.2.1 s.2.2.2.2.1) fun (x1 : Int) =>
    (cond (decide (x1 < (0 : Int)))
      (some false)
      (cond (decide (x1 ≥ s.2.1))
        (some false)
        (cond (decide ((0 : Int) ≤ s.2.2.2.2.1))
          (cond (decide (s.2.2.2.2.1 ≤ (((List.length s.1) : Nat) : Int)))
            (Option.bind (c_slices_Contains_int ((List.take ((Int.toNat s.2.2.2.2.1) - (Int.toNat (0 : Int))) (List.drop (Int.toNat (0 : Int)) s.1)), (x1, ()))) fun (x2 : Bool) =>
            (cond x2
              (some false)
              (kc (s.1, (s.2.1, (s.2.2.1, (s.2.2.2.1, ((wr (s.2.2.2.2.1 + (1 : Int))), ()))))))))
            none)
          none))))
    (ke (s.1, (s.2.1, (s.2.2.1, (s.2.2.2.1, (s.2.2.2.2.1, ())))))))
def r_impl_indicesOk (c_slices_Contains_int : ((List Int) × Int × Unit → Option Bool)) (N : Nat) (a0 : (List Int)) (a1 : Int) : Option Bool :=
  (iterK (r_impl_indicesOk_L0 c_slices_Contains_int N) N (a0, (a1, (a0, ((((List.length a0) : Nat) : Int), ((0 : Int), ()))))) fun (_s1 : ((List Int) × (Int × ((List Int) × (Int × (Int × Unit)))))) =>
  (some true))

noncomputable def e_impl_indicesOk (a : (List Int) × Int × Unit) : Option Bool := r_impl_indicesOk e_slices_Contains_int N0 a.1 a.2.1
def r_impl_IsCircular_L0 (_c_slices_Clone_int : ((List Int) × Unit → Option (List Int))) (_m_slices_Reverse_int : ((List Int) → (Unit) → Option ((List Int) × Unit))) (_c_impl_indicesOk : ((List Int) × Int × Unit → Option Bool)) (_N : Nat) (s : ((List Int) × (Int × ((List Int) × (Int × (Int × Unit)))))) (kc ke : ((List Int) × (Int × ((List Int) × (Int × (Int × Unit))))) → Option Bool) : Option Bool :=
  (cond (decide (s.2.2.2.2.1 < s.2.2.2.1))
    (Option.bind (getI s.2.2.1 s.2.2.2.2.1) fun (x1 : Int) =>
    (cond (decide ((((List.length s.1) : Nat) : Int) = (0 : Int)))
      none
      (Option.bind (getI s.1 (Int.tmod (wr (s.2.2.2.2.1 + (1 : Int))) (((List.length s.1) : Nat) : Int))) fun (x2 : Int) =>
      (cond (decide (x2 < x1))
        (kc (s.1, ((wr (s.2.1 + (1 : Int))), (s.2.2.1, (s.2.2.2.1, ((wr (s.2.2.2.2.1 + (1 : Int))), ()))))))
        (kc (s.1, (s.2.1, (s.2.2.1, (s.2.2.2.1, ((wr (s.2.2.2.2.1 + (1 : Int))), ()))))))))))
    (ke (s.1, (s.2.1, (s.2.2.1, (s.2.2.2.1, (s.2.2.2.2.1, ())))))))
def r_impl_IsCircular (c_slices_Clone_int : ((List Int) × Unit → Option (List Int))) (m_slices_Reverse_int : ((List Int) → (Unit) → Option ((List Int) × Unit))) (c_impl_indicesOk : ((List Int) × Int × Unit → Option Bool)) (N : Nat) (a0 : Int) (a1 : (List Int)) (a2 : (List Int)) : Option Bool :=
  (cond (decide (a0 < (1 : Int)))
    (some false)
    (cond (decide (a0 > (5 : Int)))
      (some false)
      (cond (!(decide ((((List.length a1) : Nat) : Int) = (((List.length a2) : Nat) : Int))))
        (some false)
        (cond (decide ((((List.length a1) : Nat) : Int) < (1 : Int)))
          (some false)
          (Option.bind (c_slices_Clone_int (a2, ())) fun (x1 : (List Int)) =>
          (Option.bind (m_slices_Reverse_int x1 ()) fun (x2 : ((List Int) × Unit)) =>
          (Option.bind (c_slices_Clone_int (a1, ())) fun (x3 : (List Int)) =>
          (cond (Nat.ble ((List.length x3) + (List.length x2.1)) 17179869184)
            (Option.bind (c_impl_indicesOk ((x3 ++ x2.1), (a0, ()))) fun (x4 : Bool) =>
            (cond (!x4)
              (some false)
              (iterK (r_impl_IsCircular_L0 c_slices_Clone_int m_slices_Reverse_int c_impl_indicesOk N) N ((x3 ++ x2.1), ((0 : Int), ((x3 ++ x2.1), ((((List.length (x3 ++ x2.1)) : Nat) : Int), ((0 : Int), ()))))) fun (s5 : ((List Int) × (Int × ((List Int) × (Int × (Int × Unit)))))) =>
              (some (decide (s5.2.1 = (1 : Int)))))))
            none))))))))

noncomputable def e_impl_IsCircular (a : Int × (List Int) × (List Int) × Unit) : Option Bool := r_impl_IsCircular e_slices_Clone_int e_slices_Reverse_int e_impl_indicesOk N0 a.1 a.2.1 a.2.2.1

noncomputable def circB (k : Int) (p q : List Int) : Bool := (e_impl_IsCircular (k, p, q, ())).getD false
noncomputable def cpRow (k : Int) (p : List Int) (Q : List (List Int)) : List (List (List Int)) := (Q.filter fun q => circB k p q).map fun q => [p, q]
noncomputable def cpSize (k : Int) (P Q : List (List Int)) : List (List (List Int)) := P.flatMap fun p => cpRow k p Q
noncomputable def cpL (k : Int) (m : Nat) : List (List Int) := (e_impl_choices (k, (m : Int), ())).getD []
noncomputable def cpAll (k : Int) (n : Nat) : List (List (List Int)) := (List.range n).flatMap fun i => cpSize k (cpL k (i + 1)) (cpL k (i + 1))
def cpOk (k : Int) (n : Nat) : Prop := ∀ i, i < n → e_impl_choices (k, ((i + 1 : Nat) : Int), ()) = some (cpL k (i + 1)) ∧ (cpL k (i + 1)).length ≤ 1000 ∧ ∀ p ∈ cpL k (i + 1), e_slices_Clone_int (p, ()) = some p ∧ ∀ q ∈ cpL k (i + 1), e_impl_IsCircular (k, p, q, ()) = some (circB k p q)
noncomputable def e_impl_CircularPairs (a : Int × Unit) : Option (List (List (List Int))) :=
  open Classical in if a.1 < 1 ∨ 5 < a.1 then some [] else if cpOk a.1 (a.1.toNat / 2) then some (cpAll a.1 (a.1.toNat / 2)) else none


noncomputable def e_slices_Delete_int (y : List Int) (a : Int × Int × Unit) : Option (List Int × List Int) := delFn y a

def r_impl_det_L0 (c_slices_Clone_int : ((List Int) × Unit → Option (List Int))) (m_slices_Delete_int : ((List Int) → (Int × Int × Unit) → Option ((List Int) × (List Int)))) (c_impl_det : ((List (List Int)) × (List Int) × (List Int) × Unit → Option Int)) (_N : Nat) (s : ((List (List Int)) × ((List Int) × ((List Int) × (Int × (Int × ((List Int) × (Int × (Int × Unit))))))))) (kc ke : ((List (List Int)) × ((List Int) × ((List Int) × (Int × (Int × ((List Int) × (Int × (Int × Unit)))))))) → Option Int) : Option Int :=
  (cond (decide (s.2.2.2.2.2.2.2.1 < s.2.2.2.2.2.2.1))
    (Option.bind (getI s.2.2.2.2.2.1 s.2.2.2.2.2.2.2.1) fun (x1 : Int) =>
    (Option.bind (getI s.2.1 (0 : Int)) fun (x2 : Int) =>
    (Option.bind (getI s.1 x2) fun (x3 : (List Int)) =>
    (Option.bind (getI x3 x1) fun (x4 : Int) =>
    (cond (!(decide (x4 = (0 : Int))))
      (cond (decide ((1 : Int) ≤ (((List.length s.2.1) : Nat) : Int)))
        (cond (decide ((((List.length s.2.1) : Nat) : Int) ≤ (((List.length s.2.1) : Nat) : Int)))
          (Option.bind (c_slices_Clone_int (s.2.2.1, ())) fun (x5 : (List Int)) =>
          (Option.bind (m_slices_Delete_int x5 (s.2.2.2.2.2.2.2.1, ((wr (s.2.2.2.2.2.2.2.1 + (1 : Int))), ()))) fun (x6 : ((List Int) × (List Int))) =>
          (Option.bind (c_impl_det (s.1, ((List.take ((Int.toNat (((List.length s.2.1) : Nat) : Int)) - (Int.toNat (1 : Int))) (List.drop (Int.toNat (1 : Int)) s.2.1)), (x6.2, ())))) fun (x7 : Int) =>
          (kc (s.1, (s.2.1, (s.2.2.1, ((wr (s.2.2.2.1 + (wr ((wr (s.2.2.2.2.1 * x4)) * x7)))), ((wr ((0 : Int) - s.2.2.2.2.1)), (s.2.2.2.2.2.1, (s.2.2.2.2.2.2.1, ((wr (s.2.2.2.2.2.2.2.1 + (1 : Int))), ()))))))))))))
          none)
        none)
      (kc (s.1, (s.2.1, (s.2.2.1, (s.2.2.2.1, ((wr ((0 : Int) - s.2.2.2.2.1)), (s.2.2.2.2.2.1, (s.2.2.2.2.2.2.1, ((wr (s.2.2.2.2.2.2.2.1 + (1 : Int))), ()))))))))))))))
    (ke (s.1, (s.2.1, (s.2.2.1, (s.2.2.2.1, (s.2.2.2.2.1, (s.2.2.2.2.2.1, (s.2.2.2.2.2.2.1, (s.2.2.2.2.2.2.2.1, ()))))))))))
def r_impl_det (c_slices_Clone_int : ((List Int) × Unit → Option (List Int))) (m_slices_Delete_int : ((List Int) → (Int × Int × Unit) → Option ((List Int) × (List Int)))) (c_impl_det : ((List (List Int)) × (List Int) × (List Int) × Unit → Option Int)) (N : Nat) (a0 : (List (List Int))) (a1 : (List Int)) (a2 : (List Int)) : Option Int :=
  (cond (decide ((((List.length a1) : Nat) : Int) = (0 : Int)))
    (some (1 : Int))
    (iterK (r_impl_det_L0 c_slices_Clone_int m_slices_Delete_int c_impl_det N) N (a0, (a1, (a2, ((0 : Int), ((1 : Int), (a2, ((((List.length a2) : Nat) : Int), ((0 : Int), ())))))))) fun (s1 : ((List (List Int)) × ((List Int) × ((List Int) × (Int × (Int × ((List Int) × (Int × (Int × Unit))))))))) =>
    (some s1.2.2.2.1)))

noncomputable def e_impl_det_n : Nat → ((List (List Int)) × (List Int) × (List Int) × Unit) → Option Int
  | 0, _ => none
  | n + 1, a => r_impl_det e_slices_Clone_int e_slices_Delete_int (e_impl_det_n n) N0 a.1 a.2.1 a.2.2.1
noncomputable def e_impl_det (a : (List (List Int)) × (List Int) × (List Int) × Unit) : Option Int := e_impl_det_n N0 a
def r_impl_circular (c_impl_det : ((List (List Int)) × (List Int) × (List Int) × Unit → Option Int)) (_N : Nat) (a0 : (List (List Int))) (a1 : (List Int)) (a2 : (List Int)) : Option Int :=
  (Option.bind (c_impl_det (a0, (a1, (a2, ())))) fun (x1 : Int) =>
  (cond (decide ((Int.tmod (((List.length a1) : Nat) : Int) (2 : Int)) = (1 : Int)))
    (some (wr ((0 : Int) - x1)))
    (some x1)))

noncomputable def e_impl_circular (a : (List (List Int)) × (List Int) × (List Int) × Unit) : Option Int := r_impl_circular e_impl_det N0 a.1 a.2.1 a.2.2.1
def r_impl_MinorMatrix (c_impl_IsWeightMatrix : ((List (List Int)) × Unit → Option Bool)) (c_impl_IsCircular : (Int × (List Int) × (List Int) × Unit → Option Bool)) (c_impl_circular : ((List (List Int)) × (List Int) × (List Int) × Unit → Option Int)) (_N : Nat) (a0 : (List (List Int))) (a1 : (List Int)) (a2 : (List Int)) : Option (Int × Bool) :=
  (Option.bind (c_impl_IsWeightMatrix (a0, ())) fun (x1 : Bool) =>
  (cond (!x1)
    (some ((0 : Int), false))
    (Option.bind (c_impl_IsCircular ((((List.length a0) : Nat) : Int), (a1, (a2, ())))) fun (x2 : Bool) =>
    (cond (!x2)
      (some ((0 : Int), false))
      (Option.bind (c_impl_circular (a0, (a1, (a2, ())))) fun (x3 : Int) =>
      (some (x3, true)))))))

noncomputable def e_impl_MinorMatrix (a : (List (List Int)) × (List Int) × (List Int) × Unit) : Option (Int × Bool) := r_impl_MinorMatrix e_impl_IsWeightMatrix e_impl_IsCircular e_impl_circular N0 a.1 a.2.1 a.2.2.1

noncomputable def prFind (m : List (List Int)) : List (List (List Int)) → Option (List (List Int))
  | [] => some []
  | x :: l => (x[0]?).bind fun p => (x[1]?).bind fun q => (e_impl_MinorMatrix (m, p, q, ())).bind fun d => if d.1 < 0 then some x else prFind m l

noncomputable def e_impl_PlanarReason (a : List (List Int) × Unit) : Option (List (List Int)) :=
  (e_impl_IsWeightMatrix (a.1, ())).bind fun b => cond b ((e_impl_CircularPairs ((a.1.length : Int), ())).bind fun l => prFind a.1 l) (some [])


noncomputable def e_impl_IsPlanarMatrix (a : List (List Int) × Unit) : Option Bool :=
  (e_impl_IsWeightMatrix (a.1, ())).bind fun b => cond b ((e_impl_PlanarReason (a.1, ())).bind fun r => some r.isEmpty) (some false)


def r_laws_eqIntS_L0 (_N : Nat) (s : ((List Int) × ((List Int) × (Int × Unit)))) (kc ke : ((List Int) × ((List Int) × (Int × Unit))) → Option Bool) : Option Bool :=
  (cond (decide (s.2.2.1 < (((List.length s.1) : Nat) : Int)))
    (Option.bind (getI s.1 s.2.2.1) fun (x1 : Int) =>
    (Option.bind (getI s.2.1 s.2.2.1) fun (x2 : Int) =>
    (cond (!(decide (x1 = x2)))
      (some false)
      (kc (s.1, (s.2.1, ((wr (s.2.2.1 + (1 : Int))), ())))))))
    (ke (s.1, (s.2.1, (s.2.2.1, ())))))
def r_laws_eqIntS (N : Nat) (a0 : (List Int)) (a1 : (List Int)) : Option Bool :=
  (cond (!(decide ((((List.length a0) : Nat) : Int) = (((List.length a1) : Nat) : Int))))
    (some false)
    (iterK (r_laws_eqIntS_L0 N) N (a0, (a1, ((0 : Int), ()))) fun (_s1 : ((List Int) × ((List Int) × (Int × Unit)))) =>
    (some true)))

noncomputable def e_laws_eqIntS (a : (List Int) × (List Int) × Unit) : Option Bool := r_laws_eqIntS N0 a.1 a.2.1
def r_laws_eqIntSS_L0 (c_laws_eqIntS : ((List Int) × (List Int) × Unit → Option Bool)) (_N : Nat) (s : ((List (List Int)) × ((List (List Int)) × (Int × Unit)))) (kc ke : ((List (List Int)) × ((List (List Int)) × (Int × Unit))) → Option Bool) : Option Bool :=
  (cond (decide (s.2.2.1 < (((List.length s.1) : Nat) : Int)))
    (Option.bind (getI s.1 s.2.2.1) fun (x1 : (List Int)) =>
    (Option.bind (getI s.2.1 s.2.2.1) fun (x2 : (List Int)) =>
    (Option.bind (c_laws_eqIntS (x1, (x2, ()))) fun (x3 : Bool) =>
    (cond (!x3)
      (some false)
      (kc (s.1, (s.2.1, ((wr (s.2.2.1 + (1 : Int))), ()))))))))
    (ke (s.1, (s.2.1, (s.2.2.1, ())))))
def r_laws_eqIntSS (c_laws_eqIntS : ((List Int) × (List Int) × Unit → Option Bool)) (N : Nat) (a0 : (List (List Int))) (a1 : (List (List Int))) : Option Bool :=
  (cond (!(decide ((((List.length a0) : Nat) : Int) = (((List.length a1) : Nat) : Int))))
    (some false)
    (iterK (r_laws_eqIntSS_L0 c_laws_eqIntS N) N (a0, (a1, ((0 : Int), ()))) fun (_s1 : ((List (List Int)) × ((List (List Int)) × (Int × Unit)))) =>
    (some true)))

noncomputable def e_laws_eqIntSS (a : (List (List Int)) × (List (List Int)) × Unit) : Option Bool := r_laws_eqIntSS e_laws_eqIntS N0 a.1 a.2.1
def r_laws_FnExactIsPlanarMatrix (c_laws_szIntSS : ((List (List Int)) × Int × Unit → Option Int)) (c_laws_toIntSS : ((List (List Int)) × Unit → Option (List (List Int)))) (c_spec_IsPlanarMatrix : ((List (List Int)) × Unit → Option Bool)) (c_impl_IsPlanarMatrix : ((List (List Int)) × Unit → Option Bool)) (c_laws_eqIntSS : ((List (List Int)) × (List (List Int)) × Unit → Option Bool)) (_N : Nat) (a0 : (List (List Int))) : Option Bool :=
  (Option.bind (c_laws_szIntSS (a0, ((1048576 : Int), ()))) fun (x1 : Int) =>
  (cond (decide (x1 < (0 : Int)))
    (some true)
    (Option.bind (c_laws_toIntSS (a0, ())) fun (x2 : (List (List Int))) =>
    (Option.bind (c_spec_IsPlanarMatrix (x2, ())) fun (x3 : Bool) =>
    (Option.bind (c_laws_toIntSS (a0, ())) fun (x4 : (List (List Int))) =>
    (Option.bind (c_impl_IsPlanarMatrix (x4, ())) fun (x5 : Bool) =>
    (cond (!(beqB x5 x3))
      (some false)
      (Option.bind (c_laws_toIntSS (a0, ())) fun (x6 : (List (List Int))) =>
      (Option.bind (c_laws_eqIntSS (x4, (x6, ()))) fun (x7 : Bool) =>
      (cond (!x7)
        (some false)
        (some true)))))))))))

noncomputable def e_laws_FnExactIsPlanarMatrix (a : (List (List Int)) × Unit) : Option Bool := r_laws_FnExactIsPlanarMatrix e_laws_szIntSS e_laws_toIntSS e_spec_IsPlanarMatrix e_impl_IsPlanarMatrix e_laws_eqIntSS N0 a.1
def r_laws_markIntS_L0 (_N : Nat) (s : ((List Int) × (Int × (Int × Unit)))) (kc ke : ((List Int) × (Int × (Int × Unit))) → Option ((List Int) × Int)) : Option ((List Int) × Int) :=
  (cond (decide (s.2.2.1 < (((List.length s.1) : Nat) : Int)))
    (Option.bind (getI s.1 s.2.2.1) fun (_x1 : Int) =>
    (kc ((List.set s.1 (Int.toNat s.2.2.1) s.2.1), ((wr (s.2.1 + (1 : Int))), ((wr (s.2.2.1 + (1 : Int))), ())))))
    (ke (s.1, (s.2.1, (s.2.2.1, ())))))
def r_laws_markIntS (N : Nat) (a0 : (List Int)) (a1 : Int) : Option ((List Int) × Int) :=
  (iterK (r_laws_markIntS_L0 N) N (a0, (a1, ((0 : Int), ()))) fun (s1 : ((List Int) × (Int × (Int × Unit)))) =>
  (some (s1.1, s1.2.1)))

noncomputable def e_laws_markIntS (y : (List Int)) (a : Int × Unit) : Option ((List Int) × Int) := r_laws_markIntS N0 y a.1
def r_laws_markIntSS_L0 (m_laws_markIntS : ((List Int) → (Int × Unit) → Option ((List Int) × Int))) (_N : Nat) (s : ((List (List Int)) × (Int × (Int × Unit)))) (kc ke : ((List (List Int)) × (Int × (Int × Unit))) → Option ((List (List Int)) × Int)) : Option ((List (List Int)) × Int) :=
  (cond (decide (s.2.2.1 < (((List.length s.1) : Nat) : Int)))
    (Option.bind (getI s.1 s.2.2.1) fun (x1 : (List Int)) =>
    (Option.bind (m_laws_markIntS x1 (s.2.1, ())) fun (x2 : ((List Int) × Int)) =>
    (kc ((List.set s.1 (Int.toNat s.2.2.1) x2.1), (x2.2, ((wr (s.2.2.1 + (1 : Int))), ()))))))
    (ke (s.1, (s.2.1, (s.2.2.1, ())))))
def r_laws_markIntSS (m_laws_markIntS : ((List Int) → (Int × Unit) → Option ((List Int) × Int))) (N : Nat) (a0 : (List (List Int))) (a1 : Int) : Option ((List (List Int)) × Int) :=
  (iterK (r_laws_markIntSS_L0 m_laws_markIntS N) N (a0, (a1, ((0 : Int), ()))) fun (s1 : ((List (List Int)) × (Int × (Int × Unit)))) =>
  (some (s1.1, s1.2.1)))

noncomputable def e_laws_markIntSS (y : (List (List Int))) (a : Int × Unit) : Option ((List (List Int)) × Int) := r_laws_markIntSS e_laws_markIntS N0 y a.1
def r_laws_heldIntS_L0 (_N : Nat) (s : ((List Int) × (Int × (Int × Unit)))) (kc ke : ((List Int) × (Int × (Int × Unit))) → Option Int) : Option Int :=
  (cond (decide (s.2.2.1 < (((List.length s.1) : Nat) : Int)))
    (Option.bind (getI s.1 s.2.2.1) fun (x1 : Int) =>
    (cond (!(decide (x1 = s.2.1)))
      (some (-(1 : Int)))
      (kc (s.1, ((wr (s.2.1 + (1 : Int))), ((wr (s.2.2.1 + (1 : Int))), ()))))))
    (ke (s.1, (s.2.1, (s.2.2.1, ())))))
def r_laws_heldIntS (N : Nat) (a0 : (List Int)) (a1 : Int) : Option Int :=
  (iterK (r_laws_heldIntS_L0 N) N (a0, (a1, ((0 : Int), ()))) fun (s1 : ((List Int) × (Int × (Int × Unit)))) =>
  (some s1.2.1))

noncomputable def e_laws_heldIntS (a : (List Int) × Int × Unit) : Option Int := r_laws_heldIntS N0 a.1 a.2.1
def r_laws_heldIntSS_L0 (c_laws_heldIntS : ((List Int) × Int × Unit → Option Int)) (_N : Nat) (s : ((List (List Int)) × (Int × (Int × Unit)))) (kc ke : ((List (List Int)) × (Int × (Int × Unit))) → Option Int) : Option Int :=
  (cond (decide (s.2.2.1 < (((List.length s.1) : Nat) : Int)))
    (Option.bind (getI s.1 s.2.2.1) fun (x1 : (List Int)) =>
    (Option.bind (c_laws_heldIntS (x1, (s.2.1, ()))) fun (x2 : Int) =>
    (cond (decide (x2 < (0 : Int)))
      (some (-(1 : Int)))
      (kc (s.1, (x2, ((wr (s.2.2.1 + (1 : Int))), ())))))))
    (ke (s.1, (s.2.1, (s.2.2.1, ())))))
def r_laws_heldIntSS (c_laws_heldIntS : ((List Int) × Int × Unit → Option Int)) (N : Nat) (a0 : (List (List Int))) (a1 : Int) : Option Int :=
  (iterK (r_laws_heldIntSS_L0 c_laws_heldIntS N) N (a0, (a1, ((0 : Int), ()))) fun (s1 : ((List (List Int)) × (Int × (Int × Unit)))) =>
  (some s1.2.1))

noncomputable def e_laws_heldIntSS (a : (List (List Int)) × Int × Unit) : Option Int := r_laws_heldIntSS e_laws_heldIntS N0 a.1 a.2.1
def r_laws_FnExactPlanarReason (c_laws_szIntSS : ((List (List Int)) × Int × Unit → Option Int)) (c_laws_toIntSS : ((List (List Int)) × Unit → Option (List (List Int)))) (c_spec_PlanarReason : ((List (List Int)) × Unit → Option (List (List Int)))) (c_impl_PlanarReason : ((List (List Int)) × Unit → Option (List (List Int)))) (c_laws_eqIntSS : ((List (List Int)) × (List (List Int)) × Unit → Option Bool)) (m_laws_markIntSS : ((List (List Int)) → (Int × Unit) → Option ((List (List Int)) × Int))) (c_laws_heldIntSS : ((List (List Int)) × Int × Unit → Option Int)) (_N : Nat) (a0 : (List (List Int))) : Option Bool :=
  (Option.bind (c_laws_szIntSS (a0, ((1048576 : Int), ()))) fun (x1 : Int) =>
  (cond (decide (x1 < (0 : Int)))
    (some true)
    (Option.bind (c_laws_toIntSS (a0, ())) fun (x2 : (List (List Int))) =>
    (Option.bind (c_spec_PlanarReason (x2, ())) fun (x3 : (List (List Int))) =>
    (Option.bind (c_laws_toIntSS (a0, ())) fun (x4 : (List (List Int))) =>
    (Option.bind (c_impl_PlanarReason (x4, ())) fun (x5 : (List (List Int))) =>
    (Option.bind (c_laws_eqIntSS (x5, (x3, ()))) fun (x6 : Bool) =>
    (cond (!x6)
      (some false)
      (Option.bind (c_laws_toIntSS (a0, ())) fun (x7 : (List (List Int))) =>
      (Option.bind (c_laws_eqIntSS (x4, (x7, ()))) fun (x8 : Bool) =>
      (cond (!x8)
        (some false)
        (Option.bind (m_laws_markIntSS x4 ((1 : Int), ())) fun (x9 : ((List (List Int)) × Int)) =>
        (cond (decide (x9.2 < (0 : Int)))
          (some false)
          (Option.bind (c_laws_eqIntSS (x5, (x3, ()))) fun (x10 : Bool) =>
          (cond (!x10)
            (some false)
            (Option.bind (m_laws_markIntSS x5 ((1 : Int), ())) fun (x11 : ((List (List Int)) × Int)) =>
            (Option.bind (c_laws_heldIntSS (x11.1, ((1 : Int), ()))) fun (x12 : Int) =>
            (cond (decide (x12 < (0 : Int)))
              (some false)
              (cond (!(decide (x12 = x11.2)))
                (some false)
                (Option.bind (c_laws_toIntSS (a0, ())) fun (x13 : (List (List Int))) =>
                (Option.bind (c_impl_PlanarReason (x13, ())) fun (x14 : (List (List Int))) =>
                (Option.bind (c_laws_eqIntSS (x14, (x3, ()))) fun (x15 : Bool) =>
                (cond (!x15)
                  (some false)
                  (Option.bind (c_laws_heldIntSS (x11.1, ((1 : Int), ()))) fun (x16 : Int) =>
                  (cond (decide (x16 < (0 : Int)))
                    (some false)
                    (cond (!(decide (x16 = x11.2)))
                      (some false)
                      (some true)))))))))))))))))))))))))))

noncomputable def e_laws_FnExactPlanarReason (a : (List (List Int)) × Unit) : Option Bool := r_laws_FnExactPlanarReason e_laws_szIntSS e_laws_toIntSS e_spec_PlanarReason e_impl_PlanarReason e_laws_eqIntSS e_laws_markIntSS e_laws_heldIntSS N0 a.1
end Go.Sx.R
