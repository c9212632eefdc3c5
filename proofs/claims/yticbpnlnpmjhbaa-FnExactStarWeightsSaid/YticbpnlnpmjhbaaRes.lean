/- What the functions compute. Conditions: none. -/
import Derived.Test.YticbpnlnpmjhbaaSx3
/- What the functions compute, printed by program out of their code. Conditions: none (definitions). -/
namespace Go.Sx.R
open Go Go.Sx
def r_laws_szRatioS (_N : Nat) (a0 : (List (Int × Int))) (a1 : Int) : Option Int :=
  (cond (decide ((wr (a1 - (((List.length a0) : Nat) : Int))) < (0 : Int)))
    (some (-(1 : Int)))
    (some (wr (a1 - (((List.length a0) : Nat) : Int)))))

noncomputable def e_laws_szRatioS (a : (List (Int × Int)) × Int × Unit) : Option Int := r_laws_szRatioS N0 a.1 a.2.1
def r_laws_szRatioSS_L0 (c_laws_szRatioS : ((List (Int × Int)) × Int × Unit → Option Int)) (_N : Nat) (s : ((List (List (Int × Int))) × (Int × (Int × Unit)))) (kc ke : ((List (List (Int × Int))) × (Int × (Int × Unit))) → Option Int) : Option Int :=
  (cond (decide (s.2.2.1 < (((List.length s.1) : Nat) : Int)))
    (Option.bind (getI s.1 s.2.2.1) fun (x1 : (List (Int × Int))) =>
    (Option.bind (c_laws_szRatioS (x1, (s.2.1, ()))) fun (x2 : Int) =>
    (cond (decide (x2 < (0 : Int)))
      (some (-(1 : Int)))
      (kc (s.1, (x2, ((wr (s.2.2.1 + (1 : Int))), ())))))))
    (ke (s.1, (s.2.1, (s.2.2.1, ())))))
def r_laws_szRatioSS (c_laws_szRatioS : ((List (Int × Int)) × Int × Unit → Option Int)) (N : Nat) (a0 : (List (List (Int × Int)))) (a1 : Int) : Option Int :=
  (cond (decide ((wr (a1 - (((List.length a0) : Nat) : Int))) < (0 : Int)))
    (some (-(1 : Int)))
    (iterK (r_laws_szRatioSS_L0 c_laws_szRatioS N) N (a0, ((wr (a1 - (((List.length a0) : Nat) : Int))), ((0 : Int), ()))) fun (s1 : ((List (List (Int × Int))) × (Int × (Int × Unit)))) =>
    (some s1.2.1)))

noncomputable def e_laws_szRatioSS (a : (List (List (Int × Int))) × Int × Unit) : Option Int := r_laws_szRatioSS e_laws_szRatioS N0 a.1 a.2.1
def r_laws_toRatio (_N : Nat) (a0 : (Int × Int)) : Option (Int × Int) :=
  (some (a0.1, a0.2))

noncomputable def e_laws_toRatio (a : (Int × Int) × Unit) : Option (Int × Int) := r_laws_toRatio N0 a.1
def r_laws_toRatioS_L0 (c_laws_toRatio : ((Int × Int) × Unit → Option (Int × Int))) (_N : Nat) (s : ((List (Int × Int)) × ((List (Int × Int)) × (Int × Unit)))) (kc ke : ((List (Int × Int)) × ((List (Int × Int)) × (Int × Unit))) → Option (List (Int × Int))) : Option (List (Int × Int)) :=
  (cond (decide (s.2.2.1 < (((List.length s.1) : Nat) : Int)))
    (Option.bind (getI s.1 s.2.2.1) fun (x1 : (Int × Int)) =>
    (Option.bind (c_laws_toRatio (x1, ())) fun (x2 : (Int × Int)) =>
    (Option.bind (getI s.2.1 s.2.2.1) fun (_x3 : (Int × Int)) =>
    (kc (s.1, ((List.set s.2.1 (Int.toNat s.2.2.1) x2), ((wr (s.2.2.1 + (1 : Int))), ())))))))
    (ke (s.1, (s.2.1, (s.2.2.1, ())))))
def r_laws_toRatioS (c_laws_toRatio : ((Int × Int) × Unit → Option (Int × Int))) (N : Nat) (a0 : (List (Int × Int))) : Option (List (Int × Int)) :=
  (cond (Nat.ble (Int.toNat (((List.length a0) : Nat) : Int)) 17179869184)
    (iterK (r_laws_toRatioS_L0 c_laws_toRatio N) N (a0, ((List.replicate (Int.toNat (((List.length a0) : Nat) : Int)) ((0 : Int), (0 : Int))), ((0 : Int), ()))) fun (s1 : ((List (Int × Int)) × ((List (Int × Int)) × (Int × Unit)))) =>
    (some s1.2.1))
    none)

noncomputable def e_laws_toRatioS (a : (List (Int × Int)) × Unit) : Option (List (Int × Int)) := r_laws_toRatioS e_laws_toRatio N0 a.1
def r_laws_toRatioSS_L0 (c_laws_toRatioS : ((List (Int × Int)) × Unit → Option (List (Int × Int)))) (_N : Nat) (s : ((List (List (Int × Int))) × ((List (List (Int × Int))) × (Int × Unit)))) (kc ke : ((List (List (Int × Int))) × ((List (List (Int × Int))) × (Int × Unit))) → Option (List (List (Int × Int)))) : Option (List (List (Int × Int))) :=
  (cond (decide (s.2.2.1 < (((List.length s.1) : Nat) : Int)))
    (Option.bind (getI s.1 s.2.2.1) fun (x1 : (List (Int × Int))) =>
    (Option.bind (c_laws_toRatioS (x1, ())) fun (x2 : (List (Int × Int))) =>
    (Option.bind (getI s.2.1 s.2.2.1) fun (_x3 : (List (Int × Int))) =>
    (kc (s.1, ((List.set s.2.1 (Int.toNat s.2.2.1) x2), ((wr (s.2.2.1 + (1 : Int))), ())))))))
    (ke (s.1, (s.2.1, (s.2.2.1, ())))))
def r_laws_toRatioSS (c_laws_toRatioS : ((List (Int × Int)) × Unit → Option (List (Int × Int)))) (N : Nat) (a0 : (List (List (Int × Int)))) : Option (List (List (Int × Int))) :=
  (cond (Nat.ble (Int.toNat (((List.length a0) : Nat) : Int)) 17179869184)
    (iterK (r_laws_toRatioSS_L0 c_laws_toRatioS N) N (a0, ((List.replicate (Int.toNat (((List.length a0) : Nat) : Int)) ([] : List (Int × Int))), ((0 : Int), ()))) fun (s1 : ((List (List (Int × Int))) × ((List (List (Int × Int))) × (Int × Unit)))) =>
    (some s1.2.1))
    none)

noncomputable def e_laws_toRatioSS (a : (List (List (Int × Int))) × Unit) : Option (List (List (Int × Int))) := r_laws_toRatioSS e_laws_toRatioS N0 a.1
def r_spec_l01In (_N : Nat) (a0 : Int) (a1 : Int) (a2 : Int) : Option Bool :=
  (cond (decide (a0 ≥ a1))
    (some (decide (a0 ≤ a2)))
    (some false))

noncomputable def e_spec_l01In (a : Int × Int × Int × Unit) : Option Bool := r_spec_l01In N0 a.1 a.2.1 a.2.2.1
def r_spec_l02Turn (_N : Nat) (a0 : Int) (a1 : Int) : Option (Int × Int) :=
  (cond (decide (a1 = (0 : Int)))
    none
    (some (a1, (Int.tmod a0 a1))))

noncomputable def e_spec_l02Turn (a : Int × Int × Unit) : Option (Int × Int) := r_spec_l02Turn N0 a.1 a.2.1
def r_spec_GcdOf_L0 (c_spec_l02Turn : (Int × Int × Unit → Option (Int × Int))) (_N : Nat) (s : (Int × (Int × Unit))) (kc ke : (Int × (Int × Unit)) → Option Int) : Option Int :=
  (cond (!(decide (s.2.1 = (0 : Int))))
    (Option.bind (c_spec_l02Turn (s.1, (s.2.1, ()))) fun (x1 : (Int × Int)) =>
    (kc (x1.1, (x1.2, ()))))
    (ke (s.1, (s.2.1, ()))))
def r_spec_GcdOf (c_spec_l02Turn : (Int × Int × Unit → Option (Int × Int))) (N : Nat) (a0 : Int) (a1 : Int) : Option Int :=
  (cond (decide (a0 < (-(9223372036854775807 : Int))))
    (some (0 : Int))
    (cond (decide (a1 < (-(9223372036854775807 : Int))))
      (some (0 : Int))
      (iterK (r_spec_GcdOf_L0 c_spec_l02Turn N) N ((@ite @Int ((wr ((0 : Int) - a0)) > a0) (@Int.decLt a0 (wr ((0 : Int) - a0))) (wr ((0 : Int) - a0)) a0), ((@ite @Int ((wr ((0 : Int) - a1)) > a1) (@Int.decLt a1 (wr ((0 : Int) - a1))) (wr ((0 : Int) - a1)) a1), ())) fun (s1 : (Int × (Int × Unit))) =>
      (some s1.1))))

noncomputable def e_spec_GcdOf (a : Int × Int × Unit) : Option Int := r_spec_GcdOf e_spec_l02Turn N0 a.1 a.2.1
def r_spec_RatioOk (c_spec_l01In : (Int × Int × Int × Unit → Option Bool)) (c_spec_GcdOf : (Int × Int × Unit → Option Int)) (_N : Nat) (a0 : (Int × Int)) : Option Bool :=
  (Option.bind (c_spec_l01In (a0.2, ((1 : Int), ((1000000000000000 : Int), ())))) fun (x1 : Bool) =>
  (cond x1
    (Option.bind (c_spec_l01In (a0.1, ((-(1000000000000000000 : Int)), ((1000000000000000000 : Int), ())))) fun (x2 : Bool) =>
    (cond x2
      (Option.bind (c_spec_GcdOf (a0.1, (a0.2, ()))) fun (x3 : Int) =>
      (some (decide (x3 = (1 : Int)))))
      (some false)))
    (some false)))

noncomputable def e_spec_RatioOk (a : (Int × Int) × Unit) : Option Bool := r_spec_RatioOk e_spec_l01In e_spec_GcdOf N0 a.1
def r_spec_l05Product (_N : Nat) (a0 : Int) (a1 : Int) : Option (Int × Bool) :=
  (cond (decide (a0 = (0 : Int)))
    (some ((0 : Int), true))
    (cond (decide (a1 = (0 : Int)))
      (some ((0 : Int), true))
      (cond (decide ((@ite @Int ((wr ((0 : Int) - a1)) > a1) (@Int.decLt a1 (wr ((0 : Int) - a1))) (wr ((0 : Int) - a1)) a1) = (0 : Int)))
        none
        (cond (decide ((@ite @Int ((wr ((0 : Int) - a0)) > a0) (@Int.decLt a0 (wr ((0 : Int) - a0))) (wr ((0 : Int) - a0)) a0) > (wr (Int.tdiv (1000000000000000000 : Int) (@ite @Int ((wr ((0 : Int) - a1)) > a1) (@Int.decLt a1 (wr ((0 : Int) - a1))) (wr ((0 : Int) - a1)) a1)))))
          (some ((0 : Int), false))
          (some ((wr (a0 * a1)), true))))))

noncomputable def e_spec_l05Product (a : Int × Int × Unit) : Option (Int × Bool) := r_spec_l05Product N0 a.1 a.2.1
def r_spec_RatioOf (c_spec_GcdOf : (Int × Int × Unit → Option Int)) (c_spec_RatioOk : ((Int × Int) × Unit → Option Bool)) (_N : Nat) (a0 : Int) (a1 : Int) : Option (Int × Int) :=
  (Option.bind (c_spec_GcdOf (a0, (a1, ()))) fun (x1 : Int) =>
  (cond (decide (x1 = (0 : Int)))
    (some ((0 : Int), (0 : Int)))
    (cond (decide (a1 = (0 : Int)))
      (some ((0 : Int), (0 : Int)))
      (cond (decide (a1 < (0 : Int)))
        (cond (decide ((wr ((0 : Int) - x1)) = (0 : Int)))
          none
          (cond (decide ((wr ((0 : Int) - x1)) = (0 : Int)))
            none
            (Option.bind (c_spec_RatioOk (((wr (Int.tdiv a0 (wr ((0 : Int) - x1)))), (wr (Int.tdiv a1 (wr ((0 : Int) - x1))))), ())) fun (x2 : Bool) =>
            (cond (!x2)
              (some ((0 : Int), (0 : Int)))
              (some ((wr (Int.tdiv a0 (wr ((0 : Int) - x1)))), (wr (Int.tdiv a1 (wr ((0 : Int) - x1))))))))))
        (cond (decide (x1 = (0 : Int)))
          none
          (cond (decide (x1 = (0 : Int)))
            none
            (Option.bind (c_spec_RatioOk (((wr (Int.tdiv a0 x1)), (wr (Int.tdiv a1 x1))), ())) fun (x3 : Bool) =>
            (cond (!x3)
              (some ((0 : Int), (0 : Int)))
              (some ((wr (Int.tdiv a0 x1)), (wr (Int.tdiv a1 x1))))))))))))

noncomputable def e_spec_RatioOf (a : Int × Int × Unit) : Option (Int × Int) := r_spec_RatioOf e_spec_GcdOf e_spec_RatioOk N0 a.1 a.2.1
def r_spec_l05Combine (c_spec_RatioOk : ((Int × Int) × Unit → Option Bool)) (c_spec_l05Product : (Int × Int × Unit → Option (Int × Bool))) (c_spec_RatioOf : (Int × Int × Unit → Option (Int × Int))) (_N : Nat) (a0 : (Int × Int)) (a1 : (Int × Int)) (a2 : Int) : Option (Int × Int) :=
  (Option.bind (c_spec_RatioOk (a0, ())) fun (x1 : Bool) =>
  (cond (!x1)
    (some ((0 : Int), (0 : Int)))
    (Option.bind (c_spec_RatioOk (a1, ())) fun (x2 : Bool) =>
    (cond (!x2)
      (some ((0 : Int), (0 : Int)))
      (Option.bind (c_spec_l05Product (a0.1, (a1.2, ()))) fun (x3 : (Int × Bool)) =>
      (Option.bind (c_spec_l05Product (a1.1, (a0.2, ()))) fun (x4 : (Int × Bool)) =>
      (Option.bind (c_spec_l05Product (a0.2, (a1.2, ()))) fun (x5 : (Int × Bool)) =>
      (Option.bind (c_spec_l05Product (a0.1, (a1.1, ()))) fun (x6 : (Int × Bool)) =>
      (cond (!x3.2)
        (some ((0 : Int), (0 : Int)))
        (cond (!x4.2)
          (some ((0 : Int), (0 : Int)))
          (cond (!x5.2)
            (some ((0 : Int), (0 : Int)))
            (cond (!x6.2)
              (some ((0 : Int), (0 : Int)))
              (Option.bind (c_spec_RatioOf ((wr (x3.1 + (wr (a2 * x4.1)))), (x5.1, ()))) fun (x7 : (Int × Int)) =>
              (some x7))))))))))))))

noncomputable def e_spec_l05Combine (a : (Int × Int) × (Int × Int) × Int × Unit) : Option (Int × Int) := r_spec_l05Combine e_spec_RatioOk e_spec_l05Product e_spec_RatioOf N0 a.1 a.2.1 a.2.2.1
def r_spec_RatioSum (c_spec_l05Combine : ((Int × Int) × (Int × Int) × Int × Unit → Option (Int × Int))) (_N : Nat) (a0 : (Int × Int)) (a1 : (Int × Int)) : Option (Int × Int) :=
  (Option.bind (c_spec_l05Combine (a0, (a1, ((1 : Int), ())))) fun (x1 : (Int × Int)) =>
  (some x1))

noncomputable def e_spec_RatioSum (a : (Int × Int) × (Int × Int) × Unit) : Option (Int × Int) := r_spec_RatioSum e_spec_l05Combine N0 a.1 a.2.1
def r_spec_IsResponse_L4 (_c_spec_l01In : (Int × Int × Int × Unit → Option Bool)) (c_spec_RatioOk : ((Int × Int) × Unit → Option Bool)) (c_spec_RatioSum : ((Int × Int) × (Int × Int) × Unit → Option (Int × Int))) (_N : Nat) (s : ((List (List (Int × Int))) × (Int × ((Int × Int) × ((List (List (Int × Int))) × (Int × (Int × ((List (Int × Int)) × (Int × (Int × Unit)))))))))) (kc ke : ((List (List (Int × Int))) × (Int × ((Int × Int) × ((List (List (Int × Int))) × (Int × (Int × ((List (Int × Int)) × (Int × (Int × Unit))))))))) → Option Bool) : Option Bool :=
  (cond (decide (s.2.2.2.2.2.2.2.2.1 < s.2.2.2.2.2.2.2.1))
    (Option.bind (getI s.2.2.2.2.2.2.1 s.2.2.2.2.2.2.2.2.1) fun (x1 : (Int × Int)) =>
    (Option.bind (c_spec_RatioOk (x1, ())) fun (x2 : Bool) =>
    (cond (!x2)
      (some false)
      (Option.bind (getI s.1 s.2.2.2.2.2.2.2.2.1) fun (x3 : (List (Int × Int))) =>
      (Option.bind (getI x3 s.2.1) fun (x4 : (Int × Int)) =>
      (cond (!((intEq x1.1 x4.1) && (intEq x1.2 x4.2)))
        (some false)
        (cond (!(decide (s.2.1 = s.2.2.2.2.2.2.2.2.1)))
          (cond (decide (x1.1 > (0 : Int)))
            (some false)
            (Option.bind (c_spec_RatioSum (s.2.2.1, (x1, ()))) fun (x5 : (Int × Int)) =>
            (kc (s.1, (s.2.1, (x5, (s.2.2.2.1, (s.2.2.2.2.1, (s.2.2.2.2.2.1, (s.2.2.2.2.2.2.1, (s.2.2.2.2.2.2.2.1, ((wr (s.2.2.2.2.2.2.2.2.1 + (1 : Int))), ()))))))))))))
          (Option.bind (c_spec_RatioSum (s.2.2.1, (x1, ()))) fun (x6 : (Int × Int)) =>
          (kc (s.1, (s.2.1, (x6, (s.2.2.2.1, (s.2.2.2.2.1, (s.2.2.2.2.2.1, (s.2.2.2.2.2.2.1, (s.2.2.2.2.2.2.2.1, ((wr (s.2.2.2.2.2.2.2.2.1 + (1 : Int))), ()))))))))))))))))))
    (ke (s.1, (s.2.1, (s.2.2.1, (s.2.2.2.1, (s.2.2.2.2.1, (s.2.2.2.2.2.1, (s.2.2.2.2.2.2.1, (s.2.2.2.2.2.2.2.1, (s.2.2.2.2.2.2.2.2.1, ())))))))))))
def r_spec_IsResponse_L2 (c_spec_l01In : (Int × Int × Int × Unit → Option Bool)) (c_spec_RatioOk : ((Int × Int) × Unit → Option Bool)) (c_spec_RatioSum : ((Int × Int) × (Int × Int) × Unit → Option (Int × Int))) (N : Nat) (s : ((List (List (Int × Int))) × ((List (List (Int × Int))) × (Int × (Int × Unit))))) (kc ke : ((List (List (Int × Int))) × ((List (List (Int × Int))) × (Int × (Int × Unit)))) → Option Bool) : Option Bool :=
  (cond (decide (s.2.2.2.1 < s.2.2.1))
    (Option.bind (getI s.2.1 s.2.2.2.1) fun (x1 : (List (Int × Int))) =>
    (iterK (r_spec_IsResponse_L4 c_spec_l01In c_spec_RatioOk c_spec_RatioSum N) N (s.1, (s.2.2.2.1, (((0 : Int), (1 : Int)), (s.2.1, (s.2.2.1, (s.2.2.2.1, (x1, ((((List.length x1) : Nat) : Int), ((0 : Int), ()))))))))) fun (s2 : ((List (List (Int × Int))) × (Int × ((Int × Int) × ((List (List (Int × Int))) × (Int × (Int × ((List (Int × Int)) × (Int × (Int × Unit)))))))))) =>
    (cond (!(decide (s2.2.2.1.1 = (0 : Int))))
      (some false)
      (cond (!(decide (s2.2.2.1.2 = (1 : Int))))
        (some false)
        (kc (s2.1, (s2.2.2.2.1, (s2.2.2.2.2.1, ((wr (s2.2.2.2.2.2.1 + (1 : Int))), ())))))))))
    (ke (s.1, (s.2.1, (s.2.2.1, (s.2.2.2.1, ()))))))
def r_spec_IsResponse_L0 (_c_spec_l01In : (Int × Int × Int × Unit → Option Bool)) (_c_spec_RatioOk : ((Int × Int) × Unit → Option Bool)) (_c_spec_RatioSum : ((Int × Int) × (Int × Int) × Unit → Option (Int × Int))) (_N : Nat) (s : ((List (List (Int × Int))) × ((List (List (Int × Int))) × (Int × (Int × Unit))))) (kc ke : ((List (List (Int × Int))) × ((List (List (Int × Int))) × (Int × (Int × Unit)))) → Option Bool) : Option Bool :=
  (cond (decide (s.2.2.2.1 < s.2.2.1))
    (Option.bind (getI s.2.1 s.2.2.2.1) fun (x1 : (List (Int × Int))) =>
    (cond (!(decide ((((List.length x1) : Nat) : Int) = (((List.length s.1) : Nat) : Int))))
      (some false)
      (kc (s.1, (s.2.1, (s.2.2.1, ((wr (s.2.2.2.1 + (1 : Int))), ())))))))
    (ke (s.1, (s.2.1, (s.2.2.1, (s.2.2.2.1, ()))))))
def r_spec_IsResponse (c_spec_l01In : (Int × Int × Int × Unit → Option Bool)) (c_spec_RatioOk : ((Int × Int) × Unit → Option Bool)) (c_spec_RatioSum : ((Int × Int) × (Int × Int) × Unit → Option (Int × Int))) (N : Nat) (a0 : (List (List (Int × Int)))) : Option Bool :=
  (Option.bind (c_spec_l01In ((((List.length a0) : Nat) : Int), ((1 : Int), ((5 : Int), ())))) fun (x1 : Bool) =>
  (cond (!x1)
    (some false)
    (iterK (r_spec_IsResponse_L0 c_spec_l01In c_spec_RatioOk c_spec_RatioSum N) N (a0, (a0, ((((List.length a0) : Nat) : Int), ((0 : Int), ())))) fun (s2 : ((List (List (Int × Int))) × ((List (List (Int × Int))) × (Int × (Int × Unit))))) =>
    (iterK (r_spec_IsResponse_L2 c_spec_l01In c_spec_RatioOk c_spec_RatioSum N) N (s2.1, (s2.1, ((((List.length s2.1) : Nat) : Int), ((0 : Int), ())))) fun (_s3 : ((List (List (Int × Int))) × ((List (List (Int × Int))) × (Int × (Int × Unit))))) =>
    (some true)))))

noncomputable def e_spec_IsResponse (a : (List (List (Int × Int))) × Unit) : Option Bool := r_spec_IsResponse e_spec_l01In e_spec_RatioOk e_spec_RatioSum N0 a.1
def r_spec_l05Fits (c_spec_RatioOk : ((Int × Int) × Unit → Option Bool)) (c_spec_l05Product : (Int × Int × Unit → Option (Int × Bool))) (_N : Nat) (a0 : (Int × Int)) (a1 : (Int × Int)) : Option Bool :=
  (Option.bind (c_spec_RatioOk (a0, ())) fun (x1 : Bool) =>
  (cond (!x1)
    (some false)
    (Option.bind (c_spec_RatioOk (a1, ())) fun (x2 : Bool) =>
    (cond (!x2)
      (some false)
      (Option.bind (c_spec_l05Product (a0.1, (a1.2, ()))) fun (x3 : (Int × Bool)) =>
      (Option.bind (c_spec_l05Product (a1.1, (a0.2, ()))) fun (x4 : (Int × Bool)) =>
      (Option.bind (c_spec_l05Product (a0.2, (a1.2, ()))) fun (x5 : (Int × Bool)) =>
      (Option.bind (c_spec_l05Product (a0.1, (a1.1, ()))) fun (x6 : (Int × Bool)) =>
      (cond x3.2
        (cond x4.2
          (cond x5.2
            (some x6.2)
            (some false))
          (some false))
        (some false))))))))))

noncomputable def e_spec_l05Fits (a : (Int × Int) × (Int × Int) × Unit) : Option Bool := r_spec_l05Fits e_spec_RatioOk e_spec_l05Product N0 a.1 a.2.1
def r_spec_RatioTimes (c_spec_l05Fits : ((Int × Int) × (Int × Int) × Unit → Option Bool)) (c_spec_RatioOf : (Int × Int × Unit → Option (Int × Int))) (_N : Nat) (a0 : (Int × Int)) (a1 : (Int × Int)) : Option (Int × Int) :=
  (Option.bind (c_spec_l05Fits (a0, (a1, ()))) fun (x1 : Bool) =>
  (cond (!x1)
    (some ((0 : Int), (0 : Int)))
    (Option.bind (c_spec_RatioOf ((wr (a0.1 * a1.1)), ((wr (a0.2 * a1.2)), ()))) fun (x2 : (Int × Int)) =>
    (some x2))))

noncomputable def e_spec_RatioTimes (a : (Int × Int) × (Int × Int) × Unit) : Option (Int × Int) := r_spec_RatioTimes e_spec_l05Fits e_spec_RatioOf N0 a.1 a.2.1
def r_spec_l08Cross (c_spec_RatioTimes : ((Int × Int) × (Int × Int) × Unit → Option (Int × Int))) (c_spec_RatioOk : ((Int × Int) × Unit → Option Bool)) (_N : Nat) (a0 : (List (List (Int × Int)))) (a1 : Int) (a2 : Int) (a3 : Int) (a4 : Int) : Option Bool :=
  (Option.bind (getI a0 a1) fun (x1 : (List (Int × Int))) =>
  (Option.bind (getI x1 a2) fun (x2 : (Int × Int)) =>
  (Option.bind (getI a0 a3) fun (x3 : (List (Int × Int))) =>
  (Option.bind (getI x3 a4) fun (x4 : (Int × Int)) =>
  (Option.bind (c_spec_RatioTimes (x2, (x4, ()))) fun (x5 : (Int × Int)) =>
  (Option.bind (getI a0 a1) fun (x6 : (List (Int × Int))) =>
  (Option.bind (getI x6 a4) fun (x7 : (Int × Int)) =>
  (Option.bind (getI a0 a3) fun (x8 : (List (Int × Int))) =>
  (Option.bind (getI x8 a2) fun (x9 : (Int × Int)) =>
  (Option.bind (c_spec_RatioTimes (x7, (x9, ()))) fun (x10 : (Int × Int)) =>
  (cond ((intEq x5.1 x10.1) && (intEq x5.2 x10.2))
    (Option.bind (c_spec_RatioOk (x5, ())) fun (x11 : Bool) =>
    (some x11))
    (some false))))))))))))

noncomputable def e_spec_l08Cross (a : (List (List (Int × Int))) × Int × Int × Int × Int × Unit) : Option Bool := r_spec_l08Cross e_spec_RatioTimes e_spec_RatioOk N0 a.1 a.2.1 a.2.2.1 a.2.2.2.1 a.2.2.2.2.1
def r_spec_IsStarMatrix_L0 (_c_spec_IsResponse : ((List (List (Int × Int))) × Unit → Option Bool)) (c_spec_l08Cross : ((List (List (Int × Int))) × Int × Int × Int × Int × Unit → Option Bool)) (_N : Nat) (s : ((List (List (Int × Int))) × (Int × (Int × Unit)))) (kc ke : ((List (List (Int × Int))) × (Int × (Int × Unit))) → Option Bool) : Option Bool :=
  (cond (decide (s.2.2.1 < (wr ((wr ((wr (s.2.1 * s.2.1)) * s.2.1)) * s.2.1))))
    (cond (decide (s.2.1 = (0 : Int)))
      none
      (cond (decide (s.2.1 = (0 : Int)))
        none
        (cond (decide (s.2.1 = (0 : Int)))
          none
          (cond (decide (s.2.1 = (0 : Int)))
            none
            (cond (decide (s.2.1 = (0 : Int)))
              none
              (cond (decide (s.2.1 = (0 : Int)))
                none
                (cond (decide (s.2.1 = (0 : Int)))
                  none
                  (cond (decide (s.2.1 = (0 : Int)))
                    none
                    (cond (decide (s.2.1 = (0 : Int)))
                      none
                      (Option.bind (getI s.1 (Int.tmod s.2.2.1 s.2.1)) fun (x1 : (List (Int × Int))) =>
                      (Option.bind (getI x1 (Int.tmod (wr (Int.tdiv s.2.2.1 s.2.1)) s.2.1)) fun (x2 : (Int × Int)) =>
                      (cond (decide (x2.1 = (0 : Int)))
                        (some false)
                        (cond (!(decide ((Int.tmod s.2.2.1 s.2.1) = (Int.tmod (wr (Int.tdiv s.2.2.1 s.2.1)) s.2.1))))
                          (cond (!(decide ((Int.tmod s.2.2.1 s.2.1) = (Int.tmod (wr (Int.tdiv (wr (Int.tdiv s.2.2.1 s.2.1)) s.2.1)) s.2.1))))
                            (cond (!(decide ((Int.tmod s.2.2.1 s.2.1) = (wr (Int.tdiv (wr (Int.tdiv (wr (Int.tdiv s.2.2.1 s.2.1)) s.2.1)) s.2.1)))))
                              (cond (!(decide ((Int.tmod (wr (Int.tdiv s.2.2.1 s.2.1)) s.2.1) = (Int.tmod (wr (Int.tdiv (wr (Int.tdiv s.2.2.1 s.2.1)) s.2.1)) s.2.1))))
                                (cond (!(decide ((Int.tmod (wr (Int.tdiv s.2.2.1 s.2.1)) s.2.1) = (wr (Int.tdiv (wr (Int.tdiv (wr (Int.tdiv s.2.2.1 s.2.1)) s.2.1)) s.2.1)))))
                                  (cond (!(decide ((Int.tmod (wr (Int.tdiv (wr (Int.tdiv s.2.2.1 s.2.1)) s.2.1)) s.2.1) = (wr (Int.tdiv (wr (Int.tdiv (wr (Int.tdiv s.2.2.1 s.2.1)) s.2.1)) s.2.1)))))
                                    (Option.bind (c_spec_l08Cross (s.1, ((Int.tmod s.2.2.1 s.2.1), ((Int.tmod (wr (Int.tdiv s.2.2.1 s.2.1)) s.2.1), ((Int.tmod (wr (Int.tdiv (wr (Int.tdiv s.2.2.1 s.2.1)) s.2.1)) s.2.1), ((wr (Int.tdiv (wr (Int.tdiv (wr (Int.tdiv s.2.2.1 s.2.1)) s.2.1)) s.2.1)), ())))))) fun (x3 : Bool) =>
                                    (cond (!x3)
                                      (some false)
                                      (kc (s.1, (s.2.1, ((wr (s.2.2.1 + (1 : Int))), ()))))))
                                    (kc (s.1, (s.2.1, ((wr (s.2.2.1 + (1 : Int))), ())))))
                                  (kc (s.1, (s.2.1, ((wr (s.2.2.1 + (1 : Int))), ())))))
                                (kc (s.1, (s.2.1, ((wr (s.2.2.1 + (1 : Int))), ())))))
                              (kc (s.1, (s.2.1, ((wr (s.2.2.1 + (1 : Int))), ())))))
                            (kc (s.1, (s.2.1, ((wr (s.2.2.1 + (1 : Int))), ())))))
                          (kc (s.1, (s.2.1, ((wr (s.2.2.1 + (1 : Int))), ())))))))))))))))))
    (ke (s.1, (s.2.1, (s.2.2.1, ())))))
def r_spec_IsStarMatrix (c_spec_IsResponse : ((List (List (Int × Int))) × Unit → Option Bool)) (c_spec_l08Cross : ((List (List (Int × Int))) × Int × Int × Int × Int × Unit → Option Bool)) (N : Nat) (a0 : (List (List (Int × Int)))) : Option Bool :=
  (Option.bind (c_spec_IsResponse (a0, ())) fun (x1 : Bool) =>
  (cond (!x1)
    (some false)
    (cond (decide ((((List.length a0) : Nat) : Int) < (3 : Int)))
      (some false)
      (iterK (r_spec_IsStarMatrix_L0 c_spec_IsResponse c_spec_l08Cross N) N (a0, ((((List.length a0) : Nat) : Int), ((0 : Int), ()))) fun (_s2 : ((List (List (Int × Int))) × (Int × (Int × Unit)))) =>
      (some true)))))

noncomputable def e_spec_IsStarMatrix (a : (List (List (Int × Int))) × Unit) : Option Bool := r_spec_IsStarMatrix e_spec_IsResponse e_spec_l08Cross N0 a.1
def r_spec_RatioInverse (c_spec_RatioOk : ((Int × Int) × Unit → Option Bool)) (c_spec_RatioOf : (Int × Int × Unit → Option (Int × Int))) (_N : Nat) (a0 : (Int × Int)) : Option (Int × Int) :=
  (Option.bind (c_spec_RatioOk (a0, ())) fun (x1 : Bool) =>
  (cond (!x1)
    (some ((0 : Int), (0 : Int)))
    (Option.bind (c_spec_RatioOf (a0.2, (a0.1, ()))) fun (x2 : (Int × Int)) =>
    (some x2))))

noncomputable def e_spec_RatioInverse (a : (Int × Int) × Unit) : Option (Int × Int) := r_spec_RatioInverse e_spec_RatioOk e_spec_RatioOf N0 a.1
def r_spec_RatioDiff (c_spec_l05Combine : ((Int × Int) × (Int × Int) × Int × Unit → Option (Int × Int))) (_N : Nat) (a0 : (Int × Int)) (a1 : (Int × Int)) : Option (Int × Int) :=
  (Option.bind (c_spec_l05Combine (a0, (a1, ((-(1 : Int)), ())))) fun (x1 : (Int × Int)) =>
  (some x1))

noncomputable def e_spec_RatioDiff (a : (Int × Int) × (Int × Int) × Unit) : Option (Int × Int) := r_spec_RatioDiff e_spec_l05Combine N0 a.1 a.2.1
def r_spec_l08Weight (c_spec_RatioTimes : ((Int × Int) × (Int × Int) × Unit → Option (Int × Int))) (c_spec_RatioInverse : ((Int × Int) × Unit → Option (Int × Int))) (c_spec_RatioDiff : ((Int × Int) × (Int × Int) × Unit → Option (Int × Int))) (_N : Nat) (a0 : (List (List (Int × Int)))) (a1 : Int) : Option (Int × Int) :=
  (cond (decide (a1 = (0 : Int)))
    (cond (decide ((wr ((1 : Int) + (1 : Int))) = a1))
      (Option.bind (getI a0 a1) fun (x1 : (List (Int × Int))) =>
      (Option.bind (getI x1 (1 : Int)) fun (x2 : (Int × Int)) =>
      (Option.bind (getI a0 a1) fun (x3 : (List (Int × Int))) =>
      (Option.bind (getI x3 (wr ((wr ((1 : Int) + (1 : Int))) + (1 : Int)))) fun (x4 : (Int × Int)) =>
      (Option.bind (c_spec_RatioTimes (x2, (x4, ()))) fun (x5 : (Int × Int)) =>
      (Option.bind (getI a0 a1) fun (x6 : (List (Int × Int))) =>
      (Option.bind (getI x6 a1) fun (x7 : (Int × Int)) =>
      (Option.bind (getI a0 (1 : Int)) fun (x8 : (List (Int × Int))) =>
      (Option.bind (getI x8 (wr ((wr ((1 : Int) + (1 : Int))) + (1 : Int)))) fun (x9 : (Int × Int)) =>
      (Option.bind (c_spec_RatioInverse (x9, ())) fun (x10 : (Int × Int)) =>
      (Option.bind (c_spec_RatioTimes (x5, (x10, ()))) fun (x11 : (Int × Int)) =>
      (Option.bind (c_spec_RatioDiff (x7, (x11, ()))) fun (x12 : (Int × Int)) =>
      (some x12)))))))))))))
      (Option.bind (getI a0 a1) fun (x13 : (List (Int × Int))) =>
      (Option.bind (getI x13 (1 : Int)) fun (x14 : (Int × Int)) =>
      (Option.bind (getI a0 a1) fun (x15 : (List (Int × Int))) =>
      (Option.bind (getI x15 (wr ((1 : Int) + (1 : Int)))) fun (x16 : (Int × Int)) =>
      (Option.bind (c_spec_RatioTimes (x14, (x16, ()))) fun (x17 : (Int × Int)) =>
      (Option.bind (getI a0 a1) fun (x18 : (List (Int × Int))) =>
      (Option.bind (getI x18 a1) fun (x19 : (Int × Int)) =>
      (Option.bind (getI a0 (1 : Int)) fun (x20 : (List (Int × Int))) =>
      (Option.bind (getI x20 (wr ((1 : Int) + (1 : Int)))) fun (x21 : (Int × Int)) =>
      (Option.bind (c_spec_RatioInverse (x21, ())) fun (x22 : (Int × Int)) =>
      (Option.bind (c_spec_RatioTimes (x17, (x22, ()))) fun (x23 : (Int × Int)) =>
      (Option.bind (c_spec_RatioDiff (x19, (x23, ()))) fun (x24 : (Int × Int)) =>
      (some x24))))))))))))))
    (cond (decide ((wr ((0 : Int) + (1 : Int))) = a1))
      (Option.bind (getI a0 a1) fun (x25 : (List (Int × Int))) =>
      (Option.bind (getI x25 (0 : Int)) fun (x26 : (Int × Int)) =>
      (Option.bind (getI a0 a1) fun (x27 : (List (Int × Int))) =>
      (Option.bind (getI x27 (wr ((wr ((0 : Int) + (1 : Int))) + (1 : Int)))) fun (x28 : (Int × Int)) =>
      (Option.bind (c_spec_RatioTimes (x26, (x28, ()))) fun (x29 : (Int × Int)) =>
      (Option.bind (getI a0 a1) fun (x30 : (List (Int × Int))) =>
      (Option.bind (getI x30 a1) fun (x31 : (Int × Int)) =>
      (Option.bind (getI a0 (0 : Int)) fun (x32 : (List (Int × Int))) =>
      (Option.bind (getI x32 (wr ((wr ((0 : Int) + (1 : Int))) + (1 : Int)))) fun (x33 : (Int × Int)) =>
      (Option.bind (c_spec_RatioInverse (x33, ())) fun (x34 : (Int × Int)) =>
      (Option.bind (c_spec_RatioTimes (x29, (x34, ()))) fun (x35 : (Int × Int)) =>
      (Option.bind (c_spec_RatioDiff (x31, (x35, ()))) fun (x36 : (Int × Int)) =>
      (some x36)))))))))))))
      (Option.bind (getI a0 a1) fun (x37 : (List (Int × Int))) =>
      (Option.bind (getI x37 (0 : Int)) fun (x38 : (Int × Int)) =>
      (Option.bind (getI a0 a1) fun (x39 : (List (Int × Int))) =>
      (Option.bind (getI x39 (wr ((0 : Int) + (1 : Int)))) fun (x40 : (Int × Int)) =>
      (Option.bind (c_spec_RatioTimes (x38, (x40, ()))) fun (x41 : (Int × Int)) =>
      (Option.bind (getI a0 a1) fun (x42 : (List (Int × Int))) =>
      (Option.bind (getI x42 a1) fun (x43 : (Int × Int)) =>
      (Option.bind (getI a0 (0 : Int)) fun (x44 : (List (Int × Int))) =>
      (Option.bind (getI x44 (wr ((0 : Int) + (1 : Int)))) fun (x45 : (Int × Int)) =>
      (Option.bind (c_spec_RatioInverse (x45, ())) fun (x46 : (Int × Int)) =>
      (Option.bind (c_spec_RatioTimes (x41, (x46, ()))) fun (x47 : (Int × Int)) =>
      (Option.bind (c_spec_RatioDiff (x43, (x47, ()))) fun (x48 : (Int × Int)) =>
      (some x48)))))))))))))))

noncomputable def e_spec_l08Weight (a : (List (List (Int × Int))) × Int × Unit) : Option (Int × Int) := r_spec_l08Weight e_spec_RatioTimes e_spec_RatioInverse e_spec_RatioDiff N0 a.1 a.2.1
def r_spec_StarWeights_L0 (_c_spec_IsStarMatrix : ((List (List (Int × Int))) × Unit → Option Bool)) (c_spec_l08Weight : ((List (List (Int × Int))) × Int × Unit → Option (Int × Int))) (c_spec_RatioOk : ((Int × Int) × Unit → Option Bool)) (_N : Nat) (s : ((List (List (Int × Int))) × ((List (Int × Int)) × (Int × (Int × Unit))))) (kc ke : ((List (List (Int × Int))) × ((List (Int × Int)) × (Int × (Int × Unit)))) → Option ((List (Int × Int)) × Bool)) : Option ((List (Int × Int)) × Bool) :=
  (cond (decide (s.2.2.2.1 < s.2.2.1))
    (Option.bind (c_spec_l08Weight (s.1, (s.2.2.2.1, ()))) fun (x1 : (Int × Int)) =>
    (Option.bind (c_spec_RatioOk (x1, ())) fun (x2 : Bool) =>
    (cond (!x2)
      (some (([] : List (Int × Int)), false))
      (cond (Nat.ble ((List.length s.2.1) + (List.length (x1 :: ([] : List (Int × Int))))) 17179869184)
        (kc (s.1, ((s.2.1 ++ (x1 :: ([] : List (Int × Int)))), (s.2.2.1, ((wr (s.2.2.2.1 + (1 : Int))), ())))))
        none))))
    (ke (s.1, (s.2.1, (s.2.2.1, (s.2.2.2.1, ()))))))
def r_spec_StarWeights (c_spec_IsStarMatrix : ((List (List (Int × Int))) × Unit → Option Bool)) (c_spec_l08Weight : ((List (List (Int × Int))) × Int × Unit → Option (Int × Int))) (c_spec_RatioOk : ((Int × Int) × Unit → Option Bool)) (N : Nat) (a0 : (List (List (Int × Int)))) : Option ((List (Int × Int)) × Bool) :=
  (Option.bind (c_spec_IsStarMatrix (a0, ())) fun (x1 : Bool) =>
  (cond (!x1)
    (some (([] : List (Int × Int)), false))
    (iterK (r_spec_StarWeights_L0 c_spec_IsStarMatrix c_spec_l08Weight c_spec_RatioOk N) N (a0, (([] : List (Int × Int)), ((((List.length a0) : Nat) : Int), ((0 : Int), ())))) fun (s2 : ((List (List (Int × Int))) × ((List (Int × Int)) × (Int × (Int × Unit))))) =>
    (some (s2.2.1, true)))))

noncomputable def e_spec_StarWeights (a : (List (List (Int × Int))) × Unit) : Option ((List (Int × Int)) × Bool) := r_spec_StarWeights e_spec_IsStarMatrix e_spec_l08Weight e_spec_RatioOk N0 a.1
def r_impl_size (_N : Nat) (a0 : Int) : Option Int :=
  (cond (decide (a0 < (0 : Int)))
    (some (Go.IntKind.wrap @Go.IntKind.u64 ((0 : Int) - (Go.IntKind.wrap @Go.IntKind.u64 a0))))
    (some (Go.IntKind.wrap @Go.IntKind.u64 a0)))

noncomputable def e_impl_size (a : Int × Unit) : Option Int := r_impl_size N0 a.1
def r_impl_common_L0 (_N : Nat) (s : (Int × (Int × Unit))) (kc ke : (Int × (Int × Unit)) → Option Int) : Option Int :=
  (cond (!(decide (s.2.1 = (0 : Int))))
    (cond (decide (s.2.1 = (0 : Int)))
      none
      (kc (s.2.1, ((Int.tmod s.1 s.2.1), ()))))
    (ke (s.1, (s.2.1, ()))))
def r_impl_common (N : Nat) (a0 : Int) (a1 : Int) : Option Int :=
  (iterK (r_impl_common_L0 N) N (a0, (a1, ())) fun (s1 : (Int × (Int × Unit))) =>
  (some s1.1))

noncomputable def e_impl_common (a : Int × Int × Unit) : Option Int := r_impl_common N0 a.1 a.2.1
def r_impl_GcdOf (c_impl_size : (Int × Unit → Option Int)) (c_impl_common : (Int × Int × Unit → Option Int)) (_N : Nat) (a0 : Int) (a1 : Int) : Option Int :=
  (cond (decide (a0 = (-(9223372036854775808 : Int))))
    (some (0 : Int))
    (cond (decide (a1 = (-(9223372036854775808 : Int))))
      (some (0 : Int))
      (Option.bind (c_impl_size (a0, ())) fun (x1 : Int) =>
      (Option.bind (c_impl_size (a1, ())) fun (x2 : Int) =>
      (Option.bind (c_impl_common (x1, (x2, ()))) fun (x3 : Int) =>
      (some (wr x3)))))))

noncomputable def e_impl_GcdOf (a : Int × Int × Unit) : Option Int := r_impl_GcdOf e_impl_size e_impl_common N0 a.1 a.2.1
def r_impl_RatioOk (c_impl_GcdOf : (Int × Int × Unit → Option Int)) (_N : Nat) (a0 : (Int × Int)) : Option Bool :=
  (cond (decide (a0.2 ≥ (1 : Int)))
    (cond (decide (a0.2 ≤ (1000000000000000 : Int)))
      (cond (decide (a0.1 ≥ (-(1000000000000000000 : Int))))
        (cond (decide (a0.1 ≤ (1000000000000000000 : Int)))
          (Option.bind (c_impl_GcdOf (a0.1, (a0.2, ()))) fun (x1 : Int) =>
          (some (decide (x1 = (1 : Int)))))
          (some false))
        (some false))
      (some false))
    (some false))

noncomputable def e_impl_RatioOk (a : (Int × Int) × Unit) : Option Bool := r_impl_RatioOk e_impl_GcdOf N0 a.1
def r_impl_IsResponse_1 (c_impl_RatioOk : ((Int × Int) × Unit → Option Bool)) (_N : Nat) (a0 : (Int × Int)) : Option Bool :=
  (Option.bind (c_impl_RatioOk (a0, ())) fun (x1 : Bool) =>
  (some (!x1)))

noncomputable def e_impl_IsResponse_1 (a : (Int × Int) × Unit) : Option Bool := r_impl_IsResponse_1 e_impl_RatioOk N0 a.1
def r_slices_IndexFunc_impl_Ratio_L0 (c_impl_IsResponse_1 : ((Int × Int) × Unit → Option Bool)) (_N : Nat) (s : ((List (Int × Int)) × (Unit × (Int × (Int × Unit))))) (kc ke : ((List (Int × Int)) × (Unit × (Int × (Int × Unit)))) → Option Int) : Option Int :=
  (cond (decide (s.2.2.2.1 < s.2.2.1))
    (Option.bind (getI s.1 s.2.2.2.1) fun (x1 : (Int × Int)) =>
    (Option.bind (c_impl_IsResponse_1 (x1, ())) fun (x2 : Bool) =>
    (cond x2
      (some s.2.2.2.1)
      (kc (s.1, (s.2.1, (s.2.2.1, ((wr (s.2.2.2.1 + (1 : Int))), ()))))))))
    (ke (s.1, (s.2.1, (s.2.2.1, (s.2.2.2.1, ()))))))
def r_slices_IndexFunc_impl_Ratio (c_impl_IsResponse_1 : ((Int × Int) × Unit → Option Bool)) (N : Nat) (a0 : (List (Int × Int))) (a1 : Unit) : Option Int :=
  (iterK (r_slices_IndexFunc_impl_Ratio_L0 c_impl_IsResponse_1 N) N (a0, (a1, ((((List.length a0) : Nat) : Int), ((0 : Int), ())))) fun (_s1 : ((List (Int × Int)) × (Unit × (Int × (Int × Unit))))) =>
  (some (-(1 : Int))))

noncomputable def e_slices_IndexFunc_impl_Ratio (a : (List (Int × Int)) × Unit × Unit) : Option Int := r_slices_IndexFunc_impl_Ratio e_impl_IsResponse_1 N0 a.1 a.2.1
def r_slices_ContainsFunc_impl_Ratio (c_slices_IndexFunc_impl_Ratio : ((List (Int × Int)) × Unit × Unit → Option Int)) (_N : Nat) (a0 : (List (Int × Int))) (a1 : Unit) : Option Bool :=
  (Option.bind (c_slices_IndexFunc_impl_Ratio (a0, (a1, ()))) fun (x1 : Int) =>
  (some (decide (x1 ≥ (0 : Int)))))

noncomputable def e_slices_ContainsFunc_impl_Ratio (a : (List (Int × Int)) × Unit × Unit) : Option Bool := r_slices_ContainsFunc_impl_Ratio e_slices_IndexFunc_impl_Ratio N0 a.1 a.2.1
def r_impl_fits (c_impl_size : (Int × Unit → Option Int)) (_N : Nat) (a0 : Int) (a1 : Int) : Option Bool :=
  (cond (decide (a0 = (0 : Int)))
    (some true)
    (cond (decide (a1 = (0 : Int)))
      (some true)
      (Option.bind (c_impl_size (a0, ())) fun (x1 : Int) =>
      (Option.bind (c_impl_size (a1, ())) fun (x2 : Int) =>
      (cond (decide (x2 = (0 : Int)))
        none
        (some (decide (x1 ≤ (Go.IntKind.wrap @Go.IntKind.u64 (Int.tdiv (1000000000000000000 : Int) x2))))))))))

noncomputable def e_impl_fits (a : Int × Int × Unit) : Option Bool := r_impl_fits e_impl_size N0 a.1 a.2.1
def r_impl_calculable (c_impl_RatioOk : ((Int × Int) × Unit → Option Bool)) (c_impl_fits : (Int × Int × Unit → Option Bool)) (_N : Nat) (a0 : (Int × Int)) (a1 : (Int × Int)) : Option Bool :=
  (Option.bind (c_impl_RatioOk (a0, ())) fun (x1 : Bool) =>
  (cond x1
    (Option.bind (c_impl_RatioOk (a1, ())) fun (x2 : Bool) =>
    (cond x2
      (Option.bind (c_impl_fits (a0.1, (a1.2, ()))) fun (x3 : Bool) =>
      (cond x3
        (Option.bind (c_impl_fits (a1.1, (a0.2, ()))) fun (x4 : Bool) =>
        (cond x4
          (Option.bind (c_impl_fits (a0.2, (a1.2, ()))) fun (x5 : Bool) =>
          (cond x5
            (Option.bind (c_impl_fits (a0.1, (a1.1, ()))) fun (x6 : Bool) =>
            (some x6))
            (some false)))
          (some false)))
        (some false)))
      (some false)))
    (some false)))

noncomputable def e_impl_calculable (a : (Int × Int) × (Int × Int) × Unit) : Option Bool := r_impl_calculable e_impl_RatioOk e_impl_fits N0 a.1 a.2.1
def r_impl_RatioOf (c_impl_size : (Int × Unit → Option Int)) (c_impl_common : (Int × Int × Unit → Option Int)) (_N : Nat) (a0 : Int) (a1 : Int) : Option (Int × Int) :=
  (cond (decide (a1 = (0 : Int)))
    (some ((0 : Int), (0 : Int)))
    (Option.bind (c_impl_size (a0, ())) fun (x1 : Int) =>
    (Option.bind (c_impl_size (a1, ())) fun (x2 : Int) =>
    (Option.bind (c_impl_common (x1, (x2, ()))) fun (x3 : Int) =>
    (Option.bind (c_impl_size (a0, ())) fun (x4 : Int) =>
    (cond (decide (x3 = (0 : Int)))
      none
      (Option.bind (c_impl_size (a1, ())) fun (x5 : Int) =>
      (cond (decide (x3 = (0 : Int)))
        none
        (cond (decide ((Go.IntKind.wrap @Go.IntKind.u64 (Int.tdiv x4 x3)) > (1000000000000000000 : Int)))
          (some ((0 : Int), (0 : Int)))
          (cond (decide ((Go.IntKind.wrap @Go.IntKind.u64 (Int.tdiv x5 x3)) > (1000000000000000 : Int)))
            (some ((0 : Int), (0 : Int)))
            (cond (!(beqB (decide (a0 < (0 : Int))) (decide (a1 < (0 : Int)))))
              (some ((wr ((0 : Int) - (wr (Go.IntKind.wrap @Go.IntKind.u64 (Int.tdiv x4 x3))))), (wr (Go.IntKind.wrap @Go.IntKind.u64 (Int.tdiv x5 x3)))))
              (some ((wr (Go.IntKind.wrap @Go.IntKind.u64 (Int.tdiv x4 x3))), (wr (Go.IntKind.wrap @Go.IntKind.u64 (Int.tdiv x5 x3))))))))))))))))

noncomputable def e_impl_RatioOf (a : Int × Int × Unit) : Option (Int × Int) := r_impl_RatioOf e_impl_size e_impl_common N0 a.1 a.2.1
def r_impl_RatioSum (c_impl_calculable : ((Int × Int) × (Int × Int) × Unit → Option Bool)) (c_impl_RatioOf : (Int × Int × Unit → Option (Int × Int))) (_N : Nat) (a0 : (Int × Int)) (a1 : (Int × Int)) : Option (Int × Int) :=
  (Option.bind (c_impl_calculable (a0, (a1, ()))) fun (x1 : Bool) =>
  (cond (!x1)
    (some ((0 : Int), (0 : Int)))
    (Option.bind (c_impl_RatioOf ((wr ((wr (a0.1 * a1.2)) + (wr (a1.1 * a0.2)))), ((wr (a0.2 * a1.2)), ()))) fun (x2 : (Int × Int)) =>
    (some x2))))

noncomputable def e_impl_RatioSum (a : (Int × Int) × (Int × Int) × Unit) : Option (Int × Int) := r_impl_RatioSum e_impl_calculable e_impl_RatioOf N0 a.1 a.2.1
def r_impl_IsResponse_L4 (_c_slices_ContainsFunc_impl_Ratio : ((List (Int × Int)) × Unit × Unit → Option Bool)) (c_impl_RatioSum : ((Int × Int) × (Int × Int) × Unit → Option (Int × Int))) (_N : Nat) (s : ((List (List (Int × Int))) × (Int × ((Int × Int) × ((List (List (Int × Int))) × (Int × (Int × ((List (Int × Int)) × (Int × (Int × Unit)))))))))) (kc ke : ((List (List (Int × Int))) × (Int × ((Int × Int) × ((List (List (Int × Int))) × (Int × (Int × ((List (Int × Int)) × (Int × (Int × Unit))))))))) → Option Bool) : Option Bool :=
  (cond (decide (s.2.2.2.2.2.2.2.2.1 < s.2.2.2.2.2.2.2.1))
    (Option.bind (getI s.2.2.2.2.2.2.1 s.2.2.2.2.2.2.2.2.1) fun (x1 : (Int × Int)) =>
    (Option.bind (getI s.1 s.2.2.2.2.2.2.2.2.1) fun (x2 : (List (Int × Int))) =>
    (Option.bind (getI x2 s.2.1) fun (x3 : (Int × Int)) =>
    (cond (!((intEq x1.1 x3.1) && (intEq x1.2 x3.2)))
      (some false)
      (cond (!(decide (s.2.1 = s.2.2.2.2.2.2.2.2.1)))
        (cond (decide (x1.1 > (0 : Int)))
          (some false)
          (Option.bind (c_impl_RatioSum (s.2.2.1, (x1, ()))) fun (x4 : (Int × Int)) =>
          (kc (s.1, (s.2.1, (x4, (s.2.2.2.1, (s.2.2.2.2.1, (s.2.2.2.2.2.1, (s.2.2.2.2.2.2.1, (s.2.2.2.2.2.2.2.1, ((wr (s.2.2.2.2.2.2.2.2.1 + (1 : Int))), ()))))))))))))
        (Option.bind (c_impl_RatioSum (s.2.2.1, (x1, ()))) fun (x5 : (Int × Int)) =>
        (kc (s.1, (s.2.1, (x5, (s.2.2.2.1, (s.2.2.2.2.1, (s.2.2.2.2.2.1, (s.2.2.2.2.2.2.1, (s.2.2.2.2.2.2.2.1, ((wr (s.2.2.2.2.2.2.2.2.1 + (1 : Int))), ()))))))))))))))))
    (ke (s.1, (s.2.1, (s.2.2.1, (s.2.2.2.1, (s.2.2.2.2.1, (s.2.2.2.2.2.1, (s.2.2.2.2.2.2.1, (s.2.2.2.2.2.2.2.1, (s.2.2.2.2.2.2.2.2.1, ())))))))))))
def r_impl_IsResponse_L2 (c_slices_ContainsFunc_impl_Ratio : ((List (Int × Int)) × Unit × Unit → Option Bool)) (c_impl_RatioSum : ((Int × Int) × (Int × Int) × Unit → Option (Int × Int))) (N : Nat) (s : ((List (List (Int × Int))) × ((List (List (Int × Int))) × (Int × (Int × Unit))))) (kc ke : ((List (List (Int × Int))) × ((List (List (Int × Int))) × (Int × (Int × Unit)))) → Option Bool) : Option Bool :=
  (cond (decide (s.2.2.2.1 < s.2.2.1))
    (Option.bind (getI s.2.1 s.2.2.2.1) fun (x1 : (List (Int × Int))) =>
    (iterK (r_impl_IsResponse_L4 c_slices_ContainsFunc_impl_Ratio c_impl_RatioSum N) N (s.1, (s.2.2.2.1, (((0 : Int), (1 : Int)), (s.2.1, (s.2.2.1, (s.2.2.2.1, (x1, ((((List.length x1) : Nat) : Int), ((0 : Int), ()))))))))) fun (s2 : ((List (List (Int × Int))) × (Int × ((Int × Int) × ((List (List (Int × Int))) × (Int × (Int × ((List (Int × Int)) × (Int × (Int × Unit)))))))))) =>
    (cond (!((intEq s2.2.2.1.1 (0 : Int)) && (intEq s2.2.2.1.2 (1 : Int))))
      (some false)
      (kc (s2.1, (s2.2.2.2.1, (s2.2.2.2.2.1, ((wr (s2.2.2.2.2.2.1 + (1 : Int))), ()))))))))
    (ke (s.1, (s.2.1, (s.2.2.1, (s.2.2.2.1, ()))))))
def r_impl_IsResponse_L0 (c_slices_ContainsFunc_impl_Ratio : ((List (Int × Int)) × Unit × Unit → Option Bool)) (_c_impl_RatioSum : ((Int × Int) × (Int × Int) × Unit → Option (Int × Int))) (_N : Nat) (s : ((List (List (Int × Int))) × ((List (List (Int × Int))) × (Int × (Int × Unit))))) (kc ke : ((List (List (Int × Int))) × ((List (List (Int × Int))) × (Int × (Int × Unit)))) → Option Bool) : Option Bool :=
  (cond (decide (s.2.2.2.1 < s.2.2.1))
    (Option.bind (getI s.2.1 s.2.2.2.1) fun (x1 : (List (Int × Int))) =>
    (cond (!(decide ((((List.length x1) : Nat) : Int) = (((List.length s.1) : Nat) : Int))))
      (some false)
      (Option.bind (c_slices_ContainsFunc_impl_Ratio (x1, ((), ()))) fun (x2 : Bool) =>
      (cond x2
        (some false)
        (kc (s.1, (s.2.1, (s.2.2.1, ((wr (s.2.2.2.1 + (1 : Int))), ())))))))))
    (ke (s.1, (s.2.1, (s.2.2.1, (s.2.2.2.1, ()))))))
def r_impl_IsResponse (c_slices_ContainsFunc_impl_Ratio : ((List (Int × Int)) × Unit × Unit → Option Bool)) (c_impl_RatioSum : ((Int × Int) × (Int × Int) × Unit → Option (Int × Int))) (N : Nat) (a0 : (List (List (Int × Int)))) : Option Bool :=
  (cond (decide ((((List.length a0) : Nat) : Int) < (1 : Int)))
    (some false)
    (cond (decide ((((List.length a0) : Nat) : Int) > (5 : Int)))
      (some false)
      (iterK (r_impl_IsResponse_L0 c_slices_ContainsFunc_impl_Ratio c_impl_RatioSum N) N (a0, (a0, ((((List.length a0) : Nat) : Int), ((0 : Int), ())))) fun (s1 : ((List (List (Int × Int))) × ((List (List (Int × Int))) × (Int × (Int × Unit))))) =>
      (iterK (r_impl_IsResponse_L2 c_slices_ContainsFunc_impl_Ratio c_impl_RatioSum N) N (s1.1, (s1.1, ((((List.length s1.1) : Nat) : Int), ((0 : Int), ())))) fun (_s2 : ((List (List (Int × Int))) × ((List (List (Int × Int))) × (Int × (Int × Unit))))) =>
      (some true)))))

noncomputable def e_impl_IsResponse (a : (List (List (Int × Int))) × Unit) : Option Bool := r_impl_IsResponse e_slices_ContainsFunc_impl_Ratio e_impl_RatioSum N0 a.1
def r_impl_RatioTimes (c_impl_calculable : ((Int × Int) × (Int × Int) × Unit → Option Bool)) (c_impl_RatioOf : (Int × Int × Unit → Option (Int × Int))) (_N : Nat) (a0 : (Int × Int)) (a1 : (Int × Int)) : Option (Int × Int) :=
  (Option.bind (c_impl_calculable (a0, (a1, ()))) fun (x1 : Bool) =>
  (cond (!x1)
    (some ((0 : Int), (0 : Int)))
    (Option.bind (c_impl_RatioOf ((wr (a0.1 * a1.1)), ((wr (a0.2 * a1.2)), ()))) fun (x2 : (Int × Int)) =>
    (some x2))))

noncomputable def e_impl_RatioTimes (a : (Int × Int) × (Int × Int) × Unit) : Option (Int × Int) := r_impl_RatioTimes e_impl_calculable e_impl_RatioOf N0 a.1 a.2.1
def r_impl_IsStarMatrix_L10 (_c_impl_IsResponse : ((List (List (Int × Int))) × Unit → Option Bool)) (c_impl_RatioTimes : ((Int × Int) × (Int × Int) × Unit → Option (Int × Int))) (c_impl_RatioOk : ((Int × Int) × Unit → Option Bool)) (_N : Nat) (s : ((List (List (Int × Int))) × (Int × (Int × (Int × (Int × (Int × (Int × (Int × (Int × (Int × (Int × (Int × Unit))))))))))))) (kc ke : ((List (List (Int × Int))) × (Int × (Int × (Int × (Int × (Int × (Int × (Int × (Int × (Int × (Int × (Int × Unit)))))))))))) → Option Bool) : Option Bool :=
  (cond (decide (s.2.2.2.2.2.2.2.2.2.2.2.1 < s.2.2.2.2.2.2.2.2.2.2.1))
    (cond (decide (s.2.1 = s.2.2.1))
      (kc (s.1, (s.2.1, (s.2.2.1, (s.2.2.2.1, (s.2.2.2.2.1, (s.2.2.2.2.2.1, (s.2.2.2.2.2.2.1, (s.2.2.2.2.2.2.2.1, (s.2.2.2.2.2.2.2.2.1, (s.2.2.2.2.2.2.2.2.2.1, (s.2.2.2.2.2.2.2.2.2.2.1, ((wr (s.2.2.2.2.2.2.2.2.2.2.2.1 + (1 : Int))), ())))))))))))))
      (cond (decide (s.2.1 = s.2.2.2.1))
        (kc (s.1, (s.2.1, (s.2.2.1, (s.2.2.2.1, (s.2.2.2.2.1, (s.2.2.2.2.2.1, (s.2.2.2.2.2.2.1, (s.2.2.2.2.2.2.2.1, (s.2.2.2.2.2.2.2.2.1, (s.2.2.2.2.2.2.2.2.2.1, (s.2.2.2.2.2.2.2.2.2.2.1, ((wr (s.2.2.2.2.2.2.2.2.2.2.2.1 + (1 : Int))), ())))))))))))))
        (cond (decide (s.2.1 = s.2.2.2.2.2.2.2.2.2.2.2.1))
          (kc (s.1, (s.2.1, (s.2.2.1, (s.2.2.2.1, (s.2.2.2.2.1, (s.2.2.2.2.2.1, (s.2.2.2.2.2.2.1, (s.2.2.2.2.2.2.2.1, (s.2.2.2.2.2.2.2.2.1, (s.2.2.2.2.2.2.2.2.2.1, (s.2.2.2.2.2.2.2.2.2.2.1, ((wr (s.2.2.2.2.2.2.2.2.2.2.2.1 + (1 : Int))), ())))))))))))))
          (cond (decide (s.2.2.1 = s.2.2.2.1))
            (kc (s.1, (s.2.1, (s.2.2.1, (s.2.2.2.1, (s.2.2.2.2.1, (s.2.2.2.2.2.1, (s.2.2.2.2.2.2.1, (s.2.2.2.2.2.2.2.1, (s.2.2.2.2.2.2.2.2.1, (s.2.2.2.2.2.2.2.2.2.1, (s.2.2.2.2.2.2.2.2.2.2.1, ((wr (s.2.2.2.2.2.2.2.2.2.2.2.1 + (1 : Int))), ())))))))))))))
            (cond (decide (s.2.2.1 = s.2.2.2.2.2.2.2.2.2.2.2.1))
              (kc (s.1, (s.2.1, (s.2.2.1, (s.2.2.2.1, (s.2.2.2.2.1, (s.2.2.2.2.2.1, (s.2.2.2.2.2.2.1, (s.2.2.2.2.2.2.2.1, (s.2.2.2.2.2.2.2.2.1, (s.2.2.2.2.2.2.2.2.2.1, (s.2.2.2.2.2.2.2.2.2.2.1, ((wr (s.2.2.2.2.2.2.2.2.2.2.2.1 + (1 : Int))), ())))))))))))))
              (cond (decide (s.2.2.2.1 = s.2.2.2.2.2.2.2.2.2.2.2.1))
                (kc (s.1, (s.2.1, (s.2.2.1, (s.2.2.2.1, (s.2.2.2.2.1, (s.2.2.2.2.2.1, (s.2.2.2.2.2.2.1, (s.2.2.2.2.2.2.2.1, (s.2.2.2.2.2.2.2.2.1, (s.2.2.2.2.2.2.2.2.2.1, (s.2.2.2.2.2.2.2.2.2.2.1, ((wr (s.2.2.2.2.2.2.2.2.2.2.2.1 + (1 : Int))), ())))))))))))))
                (Option.bind (getI s.1 s.2.1) fun (x1 : (List (Int × Int))) =>
                (Option.bind (getI x1 s.2.2.1) fun (x2 : (Int × Int)) =>
                (Option.bind (getI s.1 s.2.2.2.1) fun (x3 : (List (Int × Int))) =>
                (Option.bind (getI x3 s.2.2.2.2.2.2.2.2.2.2.2.1) fun (x4 : (Int × Int)) =>
                (Option.bind (c_impl_RatioTimes (x2, (x4, ()))) fun (x5 : (Int × Int)) =>
                (Option.bind (c_impl_RatioOk (x5, ())) fun (x6 : Bool) =>
                (cond (!x6)
                  (some false)
                  (Option.bind (getI s.1 s.2.1) fun (x7 : (List (Int × Int))) =>
                  (Option.bind (getI x7 s.2.2.2.2.2.2.2.2.2.2.2.1) fun (x8 : (Int × Int)) =>
                  (Option.bind (getI s.1 s.2.2.2.1) fun (x9 : (List (Int × Int))) =>
                  (Option.bind (getI x9 s.2.2.1) fun (x10 : (Int × Int)) =>
                  (Option.bind (c_impl_RatioTimes (x8, (x10, ()))) fun (x11 : (Int × Int)) =>
                  (cond (!((intEq x5.1 x11.1) && (intEq x5.2 x11.2)))
                    (some false)
                    (kc (s.1, (s.2.1, (s.2.2.1, (s.2.2.2.1, (s.2.2.2.2.1, (s.2.2.2.2.2.1, (s.2.2.2.2.2.2.1, (s.2.2.2.2.2.2.2.1, (s.2.2.2.2.2.2.2.2.1, (s.2.2.2.2.2.2.2.2.2.1, (s.2.2.2.2.2.2.2.2.2.2.1, ((wr (s.2.2.2.2.2.2.2.2.2.2.2.1 + (1 : Int))), ()))))))))))))))))))))))))))))))))
    (ke (s.1, (s.2.1, (s.2.2.1, (s.2.2.2.1, (s.2.2.2.2.1, (s.2.2.2.2.2.1, (s.2.2.2.2.2.2.1, (s.2.2.2.2.2.2.2.1, (s.2.2.2.2.2.2.2.2.1, (s.2.2.2.2.2.2.2.2.2.1, (s.2.2.2.2.2.2.2.2.2.2.1, (s.2.2.2.2.2.2.2.2.2.2.2.1, ()))))))))))))))
def r_impl_IsStarMatrix_L8 (c_impl_IsResponse : ((List (List (Int × Int))) × Unit → Option Bool)) (c_impl_RatioTimes : ((Int × Int) × (Int × Int) × Unit → Option (Int × Int))) (c_impl_RatioOk : ((Int × Int) × Unit → Option Bool)) (N : Nat) (s : ((List (List (Int × Int))) × (Int × (Int × (Int × (Int × (Int × (Int × (Int × (Int × Unit)))))))))) (kc ke : ((List (List (Int × Int))) × (Int × (Int × (Int × (Int × (Int × (Int × (Int × (Int × Unit))))))))) → Option Bool) : Option Bool :=
  (cond (decide (s.2.2.2.2.2.2.2.2.1 < s.2.2.2.2.2.2.2.1))
    (iterK (r_impl_IsStarMatrix_L10 c_impl_IsResponse c_impl_RatioTimes c_impl_RatioOk N) N (s.1, (s.2.1, (s.2.2.1, (s.2.2.2.2.2.2.2.2.1, (s.2.2.2.1, (s.2.2.2.2.1, (s.2.2.2.2.2.1, (s.2.2.2.2.2.2.1, (s.2.2.2.2.2.2.2.1, (s.2.2.2.2.2.2.2.2.1, ((((List.length s.1) : Nat) : Int), ((0 : Int), ())))))))))))) fun (s1 : ((List (List (Int × Int))) × (Int × (Int × (Int × (Int × (Int × (Int × (Int × (Int × (Int × (Int × (Int × Unit))))))))))))) =>
    (kc (s1.1, (s1.2.1, (s1.2.2.1, (s1.2.2.2.2.1, (s1.2.2.2.2.2.1, (s1.2.2.2.2.2.2.1, (s1.2.2.2.2.2.2.2.1, (s1.2.2.2.2.2.2.2.2.1, ((wr (s1.2.2.2.2.2.2.2.2.2.1 + (1 : Int))), ())))))))))))
    (ke (s.1, (s.2.1, (s.2.2.1, (s.2.2.2.1, (s.2.2.2.2.1, (s.2.2.2.2.2.1, (s.2.2.2.2.2.2.1, (s.2.2.2.2.2.2.2.1, (s.2.2.2.2.2.2.2.2.1, ())))))))))))
def r_impl_IsStarMatrix_L6 (c_impl_IsResponse : ((List (List (Int × Int))) × Unit → Option Bool)) (c_impl_RatioTimes : ((Int × Int) × (Int × Int) × Unit → Option (Int × Int))) (c_impl_RatioOk : ((Int × Int) × Unit → Option Bool)) (N : Nat) (s : ((List (List (Int × Int))) × (Int × (Int × (Int × (Int × (Int × Unit))))))) (kc ke : ((List (List (Int × Int))) × (Int × (Int × (Int × (Int × (Int × Unit)))))) → Option Bool) : Option Bool :=
  (cond (decide (s.2.2.2.2.2.1 < s.2.2.2.2.1))
    (iterK (r_impl_IsStarMatrix_L8 c_impl_IsResponse c_impl_RatioTimes c_impl_RatioOk N) N (s.1, (s.2.1, (s.2.2.2.2.2.1, (s.2.2.1, (s.2.2.2.1, (s.2.2.2.2.1, (s.2.2.2.2.2.1, ((((List.length s.1) : Nat) : Int), ((0 : Int), ()))))))))) fun (s1 : ((List (List (Int × Int))) × (Int × (Int × (Int × (Int × (Int × (Int × (Int × (Int × Unit)))))))))) =>
    (kc (s1.1, (s1.2.1, (s1.2.2.2.1, (s1.2.2.2.2.1, (s1.2.2.2.2.2.1, ((wr (s1.2.2.2.2.2.2.1 + (1 : Int))), ()))))))))
    (ke (s.1, (s.2.1, (s.2.2.1, (s.2.2.2.1, (s.2.2.2.2.1, (s.2.2.2.2.2.1, ()))))))))
def r_impl_IsStarMatrix_L2 (_c_impl_IsResponse : ((List (List (Int × Int))) × Unit → Option Bool)) (_c_impl_RatioTimes : ((Int × Int) × (Int × Int) × Unit → Option (Int × Int))) (_c_impl_RatioOk : ((Int × Int) × Unit → Option Bool)) (_N : Nat) (s : ((List (List (Int × Int))) × ((List (List (Int × Int))) × (Int × (Int × ((List (Int × Int)) × (Int × (Int × Unit)))))))) (kc ke : ((List (List (Int × Int))) × ((List (List (Int × Int))) × (Int × (Int × ((List (Int × Int)) × (Int × (Int × Unit))))))) → Option Bool) : Option Bool :=
  (cond (decide (s.2.2.2.2.2.2.1 < s.2.2.2.2.2.1))
    (Option.bind (getI s.2.2.2.2.1 s.2.2.2.2.2.2.1) fun (x1 : (Int × Int)) =>
    (cond (decide (x1.1 = (0 : Int)))
      (some false)
      (kc (s.1, (s.2.1, (s.2.2.1, (s.2.2.2.1, (s.2.2.2.2.1, (s.2.2.2.2.2.1, ((wr (s.2.2.2.2.2.2.1 + (1 : Int))), ()))))))))))
    (ke (s.1, (s.2.1, (s.2.2.1, (s.2.2.2.1, (s.2.2.2.2.1, (s.2.2.2.2.2.1, (s.2.2.2.2.2.2.1, ())))))))))
def r_impl_IsStarMatrix_L4 (c_impl_IsResponse : ((List (List (Int × Int))) × Unit → Option Bool)) (c_impl_RatioTimes : ((Int × Int) × (Int × Int) × Unit → Option (Int × Int))) (c_impl_RatioOk : ((Int × Int) × Unit → Option Bool)) (N : Nat) (s : ((List (List (Int × Int))) × (Int × (Int × Unit)))) (kc ke : ((List (List (Int × Int))) × (Int × (Int × Unit))) → Option Bool) : Option Bool :=
  (cond (decide (s.2.2.1 < s.2.1))
    (iterK (r_impl_IsStarMatrix_L6 c_impl_IsResponse c_impl_RatioTimes c_impl_RatioOk N) N (s.1, (s.2.2.1, (s.2.1, (s.2.2.1, ((((List.length s.1) : Nat) : Int), ((0 : Int), ())))))) fun (s1 : ((List (List (Int × Int))) × (Int × (Int × (Int × (Int × (Int × Unit))))))) =>
    (kc (s1.1, (s1.2.2.1, ((wr (s1.2.2.2.1 + (1 : Int))), ())))))
    (ke (s.1, (s.2.1, (s.2.2.1, ())))))
def r_impl_IsStarMatrix_L0 (c_impl_IsResponse : ((List (List (Int × Int))) × Unit → Option Bool)) (c_impl_RatioTimes : ((Int × Int) × (Int × Int) × Unit → Option (Int × Int))) (c_impl_RatioOk : ((Int × Int) × Unit → Option Bool)) (N : Nat) (s : ((List (List (Int × Int))) × ((List (List (Int × Int))) × (Int × (Int × Unit))))) (kc ke : ((List (List (Int × Int))) × ((List (List (Int × Int))) × (Int × (Int × Unit)))) → Option Bool) : Option Bool :=
  (cond (decide (s.2.2.2.1 < s.2.2.1))
    (Option.bind (getI s.2.1 s.2.2.2.1) fun (x1 : (List (Int × Int))) =>
    (iterK (r_impl_IsStarMatrix_L2 c_impl_IsResponse c_impl_RatioTimes c_impl_RatioOk N) N (s.1, (s.2.1, (s.2.2.1, (s.2.2.2.1, (x1, ((((List.length x1) : Nat) : Int), ((0 : Int), ()))))))) fun (s2 : ((List (List (Int × Int))) × ((List (List (Int × Int))) × (Int × (Int × ((List (Int × Int)) × (Int × (Int × Unit)))))))) =>
    (kc (s2.1, (s2.2.1, (s2.2.2.1, ((wr (s2.2.2.2.1 + (1 : Int))), ())))))))
    (ke (s.1, (s.2.1, (s.2.2.1, (s.2.2.2.1, ()))))))
def r_impl_IsStarMatrix (c_impl_IsResponse : ((List (List (Int × Int))) × Unit → Option Bool)) (c_impl_RatioTimes : ((Int × Int) × (Int × Int) × Unit → Option (Int × Int))) (c_impl_RatioOk : ((Int × Int) × Unit → Option Bool)) (N : Nat) (a0 : (List (List (Int × Int)))) : Option Bool :=
  (Option.bind (c_impl_IsResponse (a0, ())) fun (x1 : Bool) =>
  (cond (!x1)
    (some false)
    (cond (decide ((((List.length a0) : Nat) : Int) < (3 : Int)))
      (some false)
      (iterK (r_impl_IsStarMatrix_L0 c_impl_IsResponse c_impl_RatioTimes c_impl_RatioOk N) N (a0, (a0, ((((List.length a0) : Nat) : Int), ((0 : Int), ())))) fun (s2 : ((List (List (Int × Int))) × ((List (List (Int × Int))) × (Int × (Int × Unit))))) =>
      (iterK (r_impl_IsStarMatrix_L4 c_impl_IsResponse c_impl_RatioTimes c_impl_RatioOk N) N (s2.1, ((((List.length s2.1) : Nat) : Int), ((0 : Int), ()))) fun (_s3 : ((List (List (Int × Int))) × (Int × (Int × Unit)))) =>
      (some true))))))

noncomputable def e_impl_IsStarMatrix (a : (List (List (Int × Int))) × Unit) : Option Bool := r_impl_IsStarMatrix e_impl_IsResponse e_impl_RatioTimes e_impl_RatioOk N0 a.1
def r_impl_RatioInverse (c_impl_RatioOk : ((Int × Int) × Unit → Option Bool)) (c_impl_RatioOf : (Int × Int × Unit → Option (Int × Int))) (_N : Nat) (a0 : (Int × Int)) : Option (Int × Int) :=
  (Option.bind (c_impl_RatioOk (a0, ())) fun (x1 : Bool) =>
  (cond (!x1)
    (some ((0 : Int), (0 : Int)))
    (Option.bind (c_impl_RatioOf (a0.2, (a0.1, ()))) fun (x2 : (Int × Int)) =>
    (some x2))))

noncomputable def e_impl_RatioInverse (a : (Int × Int) × Unit) : Option (Int × Int) := r_impl_RatioInverse e_impl_RatioOk e_impl_RatioOf N0 a.1
def r_impl_RatioDiff (c_impl_calculable : ((Int × Int) × (Int × Int) × Unit → Option Bool)) (c_impl_RatioOf : (Int × Int × Unit → Option (Int × Int))) (_N : Nat) (a0 : (Int × Int)) (a1 : (Int × Int)) : Option (Int × Int) :=
  (Option.bind (c_impl_calculable (a0, (a1, ()))) fun (x1 : Bool) =>
  (cond (!x1)
    (some ((0 : Int), (0 : Int)))
    (Option.bind (c_impl_RatioOf ((wr ((wr (a0.1 * a1.2)) - (wr (a1.1 * a0.2)))), ((wr (a0.2 * a1.2)), ()))) fun (x2 : (Int × Int)) =>
    (some x2))))

noncomputable def e_impl_RatioDiff (a : (Int × Int) × (Int × Int) × Unit) : Option (Int × Int) := r_impl_RatioDiff e_impl_calculable e_impl_RatioOf N0 a.1 a.2.1
def r_impl_StarWeights_L2 (_c_impl_IsStarMatrix : ((List (List (Int × Int))) × Unit → Option Bool)) (_c_impl_RatioTimes : ((Int × Int) × (Int × Int) × Unit → Option (Int × Int))) (_c_impl_RatioInverse : ((Int × Int) × Unit → Option (Int × Int))) (_c_impl_RatioDiff : ((Int × Int) × (Int × Int) × Unit → Option (Int × Int))) (_c_impl_RatioOk : ((Int × Int) × Unit → Option Bool)) (_N : Nat) (s : ((List (List (Int × Int))) × ((List (Int × Int)) × (Int × ((List Int) × (Int × (Int × (Int × (Int × Unit))))))))) (kc ke : ((List (List (Int × Int))) × ((List (Int × Int)) × (Int × ((List Int) × (Int × (Int × (Int × (Int × Unit)))))))) → Option ((List (Int × Int)) × Bool)) : Option ((List (Int × Int)) × Bool) :=
  (cond (decide (s.2.2.2.2.2.2.2.1 < s.2.2.2.2.2.2.1))
    (cond (!(decide (s.2.2.2.2.2.2.2.1 = s.2.2.1)))
      (cond (decide ((((List.length s.2.2.2.1) : Nat) : Int) < (2 : Int)))
        (cond (Nat.ble ((List.length s.2.2.2.1) + (List.length (s.2.2.2.2.2.2.2.1 :: ([] : List Int)))) 17179869184)
          (kc (s.1, (s.2.1, (s.2.2.1, ((s.2.2.2.1 ++ (s.2.2.2.2.2.2.2.1 :: ([] : List Int))), (s.2.2.2.2.1, (s.2.2.2.2.2.1, (s.2.2.2.2.2.2.1, ((wr (s.2.2.2.2.2.2.2.1 + (1 : Int))), ())))))))))
          none)
        (kc (s.1, (s.2.1, (s.2.2.1, (s.2.2.2.1, (s.2.2.2.2.1, (s.2.2.2.2.2.1, (s.2.2.2.2.2.2.1, ((wr (s.2.2.2.2.2.2.2.1 + (1 : Int))), ()))))))))))
      (kc (s.1, (s.2.1, (s.2.2.1, (s.2.2.2.1, (s.2.2.2.2.1, (s.2.2.2.2.2.1, (s.2.2.2.2.2.2.1, ((wr (s.2.2.2.2.2.2.2.1 + (1 : Int))), ()))))))))))
    (ke (s.1, (s.2.1, (s.2.2.1, (s.2.2.2.1, (s.2.2.2.2.1, (s.2.2.2.2.2.1, (s.2.2.2.2.2.2.1, (s.2.2.2.2.2.2.2.1, ()))))))))))
def r_impl_StarWeights_L0 (c_impl_IsStarMatrix : ((List (List (Int × Int))) × Unit → Option Bool)) (c_impl_RatioTimes : ((Int × Int) × (Int × Int) × Unit → Option (Int × Int))) (c_impl_RatioInverse : ((Int × Int) × Unit → Option (Int × Int))) (c_impl_RatioDiff : ((Int × Int) × (Int × Int) × Unit → Option (Int × Int))) (c_impl_RatioOk : ((Int × Int) × Unit → Option Bool)) (N : Nat) (s : ((List (List (Int × Int))) × ((List (Int × Int)) × (Int × (Int × Unit))))) (kc ke : ((List (List (Int × Int))) × ((List (Int × Int)) × (Int × (Int × Unit)))) → Option ((List (Int × Int)) × Bool)) : Option ((List (Int × Int)) × Bool) :=
  (cond (decide (s.2.2.2.1 < s.2.2.1))
    (iterK (r_impl_StarWeights_L2 c_impl_IsStarMatrix c_impl_RatioTimes c_impl_RatioInverse c_impl_RatioDiff c_impl_RatioOk N) N (s.1, (s.2.1, (s.2.2.2.1, (([] : List Int), (s.2.2.1, (s.2.2.2.1, ((((List.length s.1) : Nat) : Int), ((0 : Int), ())))))))) fun (s1 : ((List (List (Int × Int))) × ((List (Int × Int)) × (Int × ((List Int) × (Int × (Int × (Int × (Int × Unit))))))))) =>
    (Option.bind (getI s1.2.2.2.1 (0 : Int)) fun (x2 : Int) =>
    (Option.bind (getI s1.2.2.2.1 (1 : Int)) fun (x3 : Int) =>
    (Option.bind (getI s1.1 s1.2.2.1) fun (x4 : (List (Int × Int))) =>
    (Option.bind (getI x4 s1.2.2.1) fun (x5 : (Int × Int)) =>
    (Option.bind (getI s1.1 s1.2.2.1) fun (x6 : (List (Int × Int))) =>
    (Option.bind (getI x6 x2) fun (x7 : (Int × Int)) =>
    (Option.bind (getI s1.1 s1.2.2.1) fun (x8 : (List (Int × Int))) =>
    (Option.bind (getI x8 x3) fun (x9 : (Int × Int)) =>
    (Option.bind (c_impl_RatioTimes (x7, (x9, ()))) fun (x10 : (Int × Int)) =>
    (Option.bind (getI s1.1 x2) fun (x11 : (List (Int × Int))) =>
    (Option.bind (getI x11 x3) fun (x12 : (Int × Int)) =>
    (Option.bind (c_impl_RatioInverse (x12, ())) fun (x13 : (Int × Int)) =>
    (Option.bind (c_impl_RatioTimes (x10, (x13, ()))) fun (x14 : (Int × Int)) =>
    (Option.bind (c_impl_RatioDiff (x5, (x14, ()))) fun (x15 : (Int × Int)) =>
    (Option.bind (c_impl_RatioOk (x15, ())) fun (x16 : Bool) =>
    (cond (!x16)
      (some (([] : List (Int × Int)), false))
      (cond (Nat.ble ((List.length s1.2.1) + (List.length (x15 :: ([] : List (Int × Int))))) 17179869184)
        (kc (s1.1, ((s1.2.1 ++ (x15 :: ([] : List (Int × Int)))), (s1.2.2.2.2.1, ((wr (s1.2.2.2.2.2.1 + (1 : Int))), ())))))
        none))))))))))))))))))
    (ke (s.1, (s.2.1, (s.2.2.1, (s.2.2.2.1, ()))))))
def r_impl_StarWeights (c_impl_IsStarMatrix : ((List (List (Int × Int))) × Unit → Option Bool)) (c_impl_RatioTimes : ((Int × Int) × (Int × Int) × Unit → Option (Int × Int))) (c_impl_RatioInverse : ((Int × Int) × Unit → Option (Int × Int))) (c_impl_RatioDiff : ((Int × Int) × (Int × Int) × Unit → Option (Int × Int))) (c_impl_RatioOk : ((Int × Int) × Unit → Option Bool)) (N : Nat) (a0 : (List (List (Int × Int)))) : Option ((List (Int × Int)) × Bool) :=
  (Option.bind (c_impl_IsStarMatrix (a0, ())) fun (x1 : Bool) =>
  (cond (!x1)
    (some (([] : List (Int × Int)), false))
    (iterK (r_impl_StarWeights_L0 c_impl_IsStarMatrix c_impl_RatioTimes c_impl_RatioInverse c_impl_RatioDiff c_impl_RatioOk N) N (a0, (([] : List (Int × Int)), ((((List.length a0) : Nat) : Int), ((0 : Int), ())))) fun (s2 : ((List (List (Int × Int))) × ((List (Int × Int)) × (Int × (Int × Unit))))) =>
    (some (s2.2.1, true)))))

noncomputable def e_impl_StarWeights (a : (List (List (Int × Int))) × Unit) : Option ((List (Int × Int)) × Bool) := r_impl_StarWeights e_impl_IsStarMatrix e_impl_RatioTimes e_impl_RatioInverse e_impl_RatioDiff e_impl_RatioOk N0 a.1
def r_laws_eqRatio (_N : Nat) (a0 : (Int × Int)) (a1 : (Int × Int)) : Option Bool :=
  (cond (!(decide (a0.1 = a1.1)))
    (some false)
    (cond (!(decide (a0.2 = a1.2)))
      (some false)
      (some true)))

noncomputable def e_laws_eqRatio (a : (Int × Int) × (Int × Int) × Unit) : Option Bool := r_laws_eqRatio N0 a.1 a.2.1
def r_laws_eqRatioS_L0 (c_laws_eqRatio : ((Int × Int) × (Int × Int) × Unit → Option Bool)) (_N : Nat) (s : ((List (Int × Int)) × ((List (Int × Int)) × (Int × Unit)))) (kc ke : ((List (Int × Int)) × ((List (Int × Int)) × (Int × Unit))) → Option Bool) : Option Bool :=
  (cond (decide (s.2.2.1 < (((List.length s.1) : Nat) : Int)))
    (Option.bind (getI s.1 s.2.2.1) fun (x1 : (Int × Int)) =>
    (Option.bind (getI s.2.1 s.2.2.1) fun (x2 : (Int × Int)) =>
    (Option.bind (c_laws_eqRatio (x1, (x2, ()))) fun (x3 : Bool) =>
    (cond (!x3)
      (some false)
      (kc (s.1, (s.2.1, ((wr (s.2.2.1 + (1 : Int))), ()))))))))
    (ke (s.1, (s.2.1, (s.2.2.1, ())))))
def r_laws_eqRatioS (c_laws_eqRatio : ((Int × Int) × (Int × Int) × Unit → Option Bool)) (N : Nat) (a0 : (List (Int × Int))) (a1 : (List (Int × Int))) : Option Bool :=
  (cond (!(decide ((((List.length a0) : Nat) : Int) = (((List.length a1) : Nat) : Int))))
    (some false)
    (iterK (r_laws_eqRatioS_L0 c_laws_eqRatio N) N (a0, (a1, ((0 : Int), ()))) fun (_s1 : ((List (Int × Int)) × ((List (Int × Int)) × (Int × Unit)))) =>
    (some true)))

noncomputable def e_laws_eqRatioS (a : (List (Int × Int)) × (List (Int × Int)) × Unit) : Option Bool := r_laws_eqRatioS e_laws_eqRatio N0 a.1 a.2.1
def r_laws_eqRatioSS_L0 (c_laws_eqRatioS : ((List (Int × Int)) × (List (Int × Int)) × Unit → Option Bool)) (_N : Nat) (s : ((List (List (Int × Int))) × ((List (List (Int × Int))) × (Int × Unit)))) (kc ke : ((List (List (Int × Int))) × ((List (List (Int × Int))) × (Int × Unit))) → Option Bool) : Option Bool :=
  (cond (decide (s.2.2.1 < (((List.length s.1) : Nat) : Int)))
    (Option.bind (getI s.1 s.2.2.1) fun (x1 : (List (Int × Int))) =>
    (Option.bind (getI s.2.1 s.2.2.1) fun (x2 : (List (Int × Int))) =>
    (Option.bind (c_laws_eqRatioS (x1, (x2, ()))) fun (x3 : Bool) =>
    (cond (!x3)
      (some false)
      (kc (s.1, (s.2.1, ((wr (s.2.2.1 + (1 : Int))), ()))))))))
    (ke (s.1, (s.2.1, (s.2.2.1, ())))))
def r_laws_eqRatioSS (c_laws_eqRatioS : ((List (Int × Int)) × (List (Int × Int)) × Unit → Option Bool)) (N : Nat) (a0 : (List (List (Int × Int)))) (a1 : (List (List (Int × Int)))) : Option Bool :=
  (cond (!(decide ((((List.length a0) : Nat) : Int) = (((List.length a1) : Nat) : Int))))
    (some false)
    (iterK (r_laws_eqRatioSS_L0 c_laws_eqRatioS N) N (a0, (a1, ((0 : Int), ()))) fun (_s1 : ((List (List (Int × Int))) × ((List (List (Int × Int))) × (Int × Unit)))) =>
    (some true)))

noncomputable def e_laws_eqRatioSS (a : (List (List (Int × Int))) × (List (List (Int × Int))) × Unit) : Option Bool := r_laws_eqRatioSS e_laws_eqRatioS N0 a.1 a.2.1
def r_laws_markRatioS_L0 (_N : Nat) (s : ((List (Int × Int)) × (Int × (Int × Unit)))) (kc ke : ((List (Int × Int)) × (Int × (Int × Unit))) → Option ((List (Int × Int)) × Int)) : Option ((List (Int × Int)) × Int) :=
  (cond (decide (s.2.2.1 < (((List.length s.1) : Nat) : Int)))
    (Option.bind (getI s.1 s.2.2.1) fun (x1 : (Int × Int)) =>
    (Option.bind (getI (List.set s.1 (Int.toNat s.2.2.1) (s.2.1, x1.2)) s.2.2.1) fun (x2 : (Int × Int)) =>
    (kc ((List.set (List.set s.1 (Int.toNat s.2.2.1) (s.2.1, x1.2)) (Int.toNat s.2.2.1) (x2.1, (wr (s.2.1 + (1 : Int))))), ((wr ((wr (s.2.1 + (1 : Int))) + (1 : Int))), ((wr (s.2.2.1 + (1 : Int))), ()))))))
    (ke (s.1, (s.2.1, (s.2.2.1, ())))))
def r_laws_markRatioS (N : Nat) (a0 : (List (Int × Int))) (a1 : Int) : Option ((List (Int × Int)) × Int) :=
  (iterK (r_laws_markRatioS_L0 N) N (a0, (a1, ((0 : Int), ()))) fun (s1 : ((List (Int × Int)) × (Int × (Int × Unit)))) =>
  (some (s1.1, s1.2.1)))

noncomputable def e_laws_markRatioS (y : (List (Int × Int))) (a : Int × Unit) : Option ((List (Int × Int)) × Int) := r_laws_markRatioS N0 y a.1
def r_laws_markRatioSS_L0 (m_laws_markRatioS : ((List (Int × Int)) → (Int × Unit) → Option ((List (Int × Int)) × Int))) (_N : Nat) (s : ((List (List (Int × Int))) × (Int × (Int × Unit)))) (kc ke : ((List (List (Int × Int))) × (Int × (Int × Unit))) → Option ((List (List (Int × Int))) × Int)) : Option ((List (List (Int × Int))) × Int) :=
  (cond (decide (s.2.2.1 < (((List.length s.1) : Nat) : Int)))
    (Option.bind (getI s.1 s.2.2.1) fun (x1 : (List (Int × Int))) =>
    (Option.bind (m_laws_markRatioS x1 (s.2.1, ())) fun (x2 : ((List (Int × Int)) × Int)) =>
    (kc ((List.set s.1 (Int.toNat s.2.2.1) x2.1), (x2.2, ((wr (s.2.2.1 + (1 : Int))), ()))))))
    (ke (s.1, (s.2.1, (s.2.2.1, ())))))
def r_laws_markRatioSS (m_laws_markRatioS : ((List (Int × Int)) → (Int × Unit) → Option ((List (Int × Int)) × Int))) (N : Nat) (a0 : (List (List (Int × Int)))) (a1 : Int) : Option ((List (List (Int × Int))) × Int) :=
  (iterK (r_laws_markRatioSS_L0 m_laws_markRatioS N) N (a0, (a1, ((0 : Int), ()))) fun (s1 : ((List (List (Int × Int))) × (Int × (Int × Unit)))) =>
  (some (s1.1, s1.2.1)))

noncomputable def e_laws_markRatioSS (y : (List (List (Int × Int)))) (a : Int × Unit) : Option ((List (List (Int × Int))) × Int) := r_laws_markRatioSS e_laws_markRatioS N0 y a.1
def r_laws_heldRatioS_L0 (_N : Nat) (s : ((List (Int × Int)) × (Int × (Int × Unit)))) (kc ke : ((List (Int × Int)) × (Int × (Int × Unit))) → Option Int) : Option Int :=
  (cond (decide (s.2.2.1 < (((List.length s.1) : Nat) : Int)))
    (Option.bind (getI s.1 s.2.2.1) fun (x1 : (Int × Int)) =>
    (cond (!(decide (x1.1 = s.2.1)))
      (some (-(1 : Int)))
      (Option.bind (getI s.1 s.2.2.1) fun (x2 : (Int × Int)) =>
      (cond (!(decide (x2.2 = (wr (s.2.1 + (1 : Int))))))
        (some (-(1 : Int)))
        (kc (s.1, ((wr ((wr (s.2.1 + (1 : Int))) + (1 : Int))), ((wr (s.2.2.1 + (1 : Int))), ()))))))))
    (ke (s.1, (s.2.1, (s.2.2.1, ())))))
def r_laws_heldRatioS (N : Nat) (a0 : (List (Int × Int))) (a1 : Int) : Option Int :=
  (iterK (r_laws_heldRatioS_L0 N) N (a0, (a1, ((0 : Int), ()))) fun (s1 : ((List (Int × Int)) × (Int × (Int × Unit)))) =>
  (some s1.2.1))

noncomputable def e_laws_heldRatioS (a : (List (Int × Int)) × Int × Unit) : Option Int := r_laws_heldRatioS N0 a.1 a.2.1
def r_laws_FnExactStarWeights (c_laws_szRatioSS : ((List (List (Int × Int))) × Int × Unit → Option Int)) (c_laws_toRatioSS : ((List (List (Int × Int))) × Unit → Option (List (List (Int × Int))))) (c_spec_StarWeights : ((List (List (Int × Int))) × Unit → Option ((List (Int × Int)) × Bool))) (c_impl_StarWeights : ((List (List (Int × Int))) × Unit → Option ((List (Int × Int)) × Bool))) (c_laws_eqRatioS : ((List (Int × Int)) × (List (Int × Int)) × Unit → Option Bool)) (c_laws_eqRatioSS : ((List (List (Int × Int))) × (List (List (Int × Int))) × Unit → Option Bool)) (m_laws_markRatioSS : ((List (List (Int × Int))) → (Int × Unit) → Option ((List (List (Int × Int))) × Int))) (m_laws_markRatioS : ((List (Int × Int)) → (Int × Unit) → Option ((List (Int × Int)) × Int))) (c_laws_heldRatioS : ((List (Int × Int)) × Int × Unit → Option Int)) (_N : Nat) (a0 : (List (List (Int × Int)))) : Option Bool :=
  (Option.bind (c_laws_szRatioSS (a0, ((1048576 : Int), ()))) fun (x1 : Int) =>
  (cond (decide (x1 < (0 : Int)))
    (some true)
    (Option.bind (c_laws_toRatioSS (a0, ())) fun (x2 : (List (List (Int × Int)))) =>
    (Option.bind (c_spec_StarWeights (x2, ())) fun (x3 : ((List (Int × Int)) × Bool)) =>
    (Option.bind (c_laws_toRatioSS (a0, ())) fun (x4 : (List (List (Int × Int)))) =>
    (Option.bind (c_impl_StarWeights (x4, ())) fun (x5 : ((List (Int × Int)) × Bool)) =>
    (Option.bind (c_laws_eqRatioS (x5.1, (x3.1, ()))) fun (x6 : Bool) =>
    (cond (!x6)
      (some false)
      (cond (!(beqB x5.2 x3.2))
        (some false)
        (Option.bind (c_laws_toRatioSS (a0, ())) fun (x7 : (List (List (Int × Int)))) =>
        (Option.bind (c_laws_eqRatioSS (x4, (x7, ()))) fun (x8 : Bool) =>
        (cond (!x8)
          (some false)
          (Option.bind (m_laws_markRatioSS x4 ((1 : Int), ())) fun (x9 : ((List (List (Int × Int))) × Int)) =>
          (cond (decide (x9.2 < (0 : Int)))
            (some false)
            (Option.bind (c_laws_eqRatioS (x5.1, (x3.1, ()))) fun (x10 : Bool) =>
            (cond (!x10)
              (some false)
              (cond (!(beqB x5.2 x3.2))
                (some false)
                (Option.bind (m_laws_markRatioS x5.1 ((1 : Int), ())) fun (x11 : ((List (Int × Int)) × Int)) =>
                (Option.bind (c_laws_heldRatioS (x11.1, ((1 : Int), ()))) fun (x12 : Int) =>
                (cond (decide (x12 < (0 : Int)))
                  (some false)
                  (cond (!(decide (x12 = x11.2)))
                    (some false)
                    (Option.bind (c_laws_toRatioSS (a0, ())) fun (x13 : (List (List (Int × Int)))) =>
                    (Option.bind (c_impl_StarWeights (x13, ())) fun (x14 : ((List (Int × Int)) × Bool)) =>
                    (Option.bind (c_laws_eqRatioS (x14.1, (x3.1, ()))) fun (x15 : Bool) =>
                    (cond (!x15)
                      (some false)
                      (cond (!(beqB x14.2 x3.2))
                        (some false)
                        (Option.bind (c_laws_heldRatioS (x11.1, ((1 : Int), ()))) fun (x16 : Int) =>
                        (cond (decide (x16 < (0 : Int)))
                          (some false)
                          (cond (!(decide (x16 = x11.2)))
                            (some false)
                            (some true))))))))))))))))))))))))))))))

noncomputable def e_laws_FnExactStarWeights (a : (List (List (Int × Int))) × Unit) : Option Bool := r_laws_FnExactStarWeights e_laws_szRatioSS e_laws_toRatioSS e_spec_StarWeights e_impl_StarWeights e_laws_eqRatioS e_laws_eqRatioSS e_laws_markRatioSS e_laws_markRatioS e_laws_heldRatioS N0 a.1
def r_laws_FnExactIsStarMatrix (c_laws_szRatioSS : ((List (List (Int × Int))) × Int × Unit → Option Int)) (c_laws_toRatioSS : ((List (List (Int × Int))) × Unit → Option (List (List (Int × Int))))) (c_spec_IsStarMatrix : ((List (List (Int × Int))) × Unit → Option Bool)) (c_impl_IsStarMatrix : ((List (List (Int × Int))) × Unit → Option Bool)) (c_laws_eqRatioSS : ((List (List (Int × Int))) × (List (List (Int × Int))) × Unit → Option Bool)) (_N : Nat) (a0 : (List (List (Int × Int)))) : Option Bool :=
  (Option.bind (c_laws_szRatioSS (a0, ((1048576 : Int), ()))) fun (x1 : Int) =>
  (cond (decide (x1 < (0 : Int)))
    (some true)
    (Option.bind (c_laws_toRatioSS (a0, ())) fun (x2 : (List (List (Int × Int)))) =>
    (Option.bind (c_spec_IsStarMatrix (x2, ())) fun (x3 : Bool) =>
    (Option.bind (c_laws_toRatioSS (a0, ())) fun (x4 : (List (List (Int × Int)))) =>
    (Option.bind (c_impl_IsStarMatrix (x4, ())) fun (x5 : Bool) =>
    (cond (!(beqB x5 x3))
      (some false)
      (Option.bind (c_laws_toRatioSS (a0, ())) fun (x6 : (List (List (Int × Int)))) =>
      (Option.bind (c_laws_eqRatioSS (x4, (x6, ()))) fun (x7 : Bool) =>
      (cond (!x7)
        (some false)
        (some true)))))))))))

noncomputable def e_laws_FnExactIsStarMatrix (a : (List (List (Int × Int))) × Unit) : Option Bool := r_laws_FnExactIsStarMatrix e_laws_szRatioSS e_laws_toRatioSS e_spec_IsStarMatrix e_impl_IsStarMatrix e_laws_eqRatioSS N0 a.1
end Go.Sx.R
