/- What the functions compute. Conditions: none. -/
import Derived.Test.YtjjhhgieolobjaaSx4
namespace Go.Sx.R
open Go Go.Sx
abbrev TNw : Type := Int × (Int × (Int × (List (Int × (Int × Int)))))
def r_spec_l01New_L0 (A : Option (Nat × Obj)) (_N : Nat) (s : (Value × (Int × (Int × Unit)))) (kc ke : (Value × (Int × (Int × Unit))) → Option (Option (Value × (Int × Int)))) : Option (Option (Value × (Int × Int))) :=
  (Option.bind (rawLen s.1) fun (x1 : Int) =>
  (cond (decide (s.2.2.1 < x1))
    (cond (decide (s.2.2.1 < (4000 : Int)))
      (Option.bind (readAt A s.1 s.2.2.1) fun (x2 : Int) =>
      (kc (s.1, ((wr (((BitVec.toNat ((BitVec.ofInt (@Go.IntKind.bits @Go.IntKind.i64) (wr ((wr ((wr (s.2.1 * (103 : Int))) + (wr x2))) + (7 : Int)))) &&& (BitVec.ofInt (@Go.IntKind.bits @Go.IntKind.i64) (1073741823 : Int)))) : Nat) : Int)), ((wr (s.2.2.1 + (1 : Int))), ())))))
      (ke (s.1, (s.2.1, (s.2.2.1, ())))))
    (ke (s.1, (s.2.1, (s.2.2.1, ()))))))
def r_spec_l01New (A : Option (Nat × Obj)) (N : Nat) (a0 : Value) : Option (Option (Value × (Int × Int))) :=
  (Option.bind (rawLen a0) fun (x1 : Int) =>
  (iterK (r_spec_l01New_L0 A N) N (a0, ((wr ((2071 : Int) + x1)), ((0 : Int), ()))) fun (s2 : (Value × (Int × (Int × Unit)))) =>
  (some (some (s2.1, ((0 : Int), s2.2.1))))))
noncomputable def e_spec_l01New (A : Option (Nat × Obj)) (a : Value × Unit) : Option (Option (Value × Int × Int)) := r_spec_l01New A N0 a.1
def r_spec_l01Byte (A : Option (Nat × Obj)) (_N : Nat) (a0 : (Value × (Int × Int))) : Option ((Option (Value × (Int × Int))) × Int) :=
  (Option.bind (rawLen a0.1) fun (x1 : Int) =>
  (cond (decide (a0.2.1 < x1))
    (Option.bind (readAt A a0.1 a0.2.1) fun (x2 : Int) =>
    (some ((some (a0.1, ((wr (a0.2.1 + (1 : Int))), (wr ((wr (a0.2.2 * (6364136223846793005 : Int))) + (1442695040888963407 : Int)))))), (wr (((BitVec.toNat ((BitVec.ofInt (@Go.IntKind.bits @Go.IntKind.i64) (wr ((wr (((BitVec.toNat ((BitVec.ofInt (@Go.IntKind.bits @Go.IntKind.i64) (wr (((BitVec.toNat ((BitVec.ofInt (@Go.IntKind.bits @Go.IntKind.i64) (Int.fdiv (wr ((wr (a0.2.2 * (6364136223846793005 : Int))) + (1442695040888963407 : Int))) ((2 : Int) ^ (min (Int.toNat (33 : Int)) (@Go.IntKind.bits @Go.IntKind.i64))))) ^^^ (BitVec.ofInt (@Go.IntKind.bits @Go.IntKind.i64) (Int.fdiv (wr ((wr (a0.2.2 * (6364136223846793005 : Int))) + (1442695040888963407 : Int))) ((2 : Int) ^ (min (Int.toNat (45 : Int)) (@Go.IntKind.bits @Go.IntKind.i64))))))) : Nat) : Int))) &&& (BitVec.ofInt (@Go.IntKind.bits @Go.IntKind.i64) (255 : Int)))) : Nat) : Int)) + (wr x2)))) &&& (BitVec.ofInt (@Go.IntKind.bits @Go.IntKind.i64) (255 : Int)))) : Nat) : Int)))))
    (some ((some (a0.1, (a0.2.1, (wr ((wr (a0.2.2 * (6364136223846793005 : Int))) + (1442695040888963407 : Int)))))), (wr (((BitVec.toNat ((BitVec.ofInt (@Go.IntKind.bits @Go.IntKind.i64) (wr (((BitVec.toNat ((BitVec.ofInt (@Go.IntKind.bits @Go.IntKind.i64) (Int.fdiv (wr ((wr (a0.2.2 * (6364136223846793005 : Int))) + (1442695040888963407 : Int))) ((2 : Int) ^ (min (Int.toNat (33 : Int)) (@Go.IntKind.bits @Go.IntKind.i64))))) ^^^ (BitVec.ofInt (@Go.IntKind.bits @Go.IntKind.i64) (Int.fdiv (wr ((wr (a0.2.2 * (6364136223846793005 : Int))) + (1442695040888963407 : Int))) ((2 : Int) ^ (min (Int.toNat (45 : Int)) (@Go.IntKind.bits @Go.IntKind.i64))))))) : Nat) : Int))) &&& (BitVec.ofInt (@Go.IntKind.bits @Go.IntKind.i64) (255 : Int)))) : Nat) : Int))))))
noncomputable def e_spec_l01Byte (A : Option (Nat × Obj)) (y : Option (Value × Int × Int)) (_ : Unit) : Option (Option (Value × Int × Int) × Int) := Option.bind y fun y => r_spec_l01Byte A N0 y
def r_spec_l01Below (k_spec_l01Byte : (Option (Value × Int × Int) → (Unit) → Option (Option (Value × Int × Int) × Int))) (_N : Nat) (a0 : (Option (Value × (Int × Int)))) (a1 : Int) : Option ((Option (Value × (Int × Int))) × Int) :=
  (cond (decide (a1 ≤ (0 : Int)))
    (some (a0, (0 : Int)))
    (cond (decide (a1 ≤ (256 : Int)))
      (Option.bind (k_spec_l01Byte a0 ()) fun (x1 : ((Option (Value × (Int × Int))) × Int)) =>
      (cond (decide (a1 = (0 : Int)))
        none
        (some (x1.1, (Int.tmod x1.2 a1)))))
      (Option.bind (k_spec_l01Byte a0 ()) fun (x2 : ((Option (Value × (Int × Int))) × Int)) =>
      (Option.bind (k_spec_l01Byte x2.1 ()) fun (x3 : ((Option (Value × (Int × Int))) × Int)) =>
      (Option.bind (k_spec_l01Byte x3.1 ()) fun (x4 : ((Option (Value × (Int × Int))) × Int)) =>
      (Option.bind (k_spec_l01Byte x4.1 ()) fun (x5 : ((Option (Value × (Int × Int))) × Int)) =>
      (cond (decide (a1 = (0 : Int)))
        none
        (some (x5.1, (Int.tmod (wr ((wr ((wr ((wr (x2.2 * (16777216 : Int))) + (wr (x3.2 * (65536 : Int))))) + (wr (x4.2 * (256 : Int))))) + x5.2)) a1))))))))))
noncomputable def e_spec_l01Below (A : Option (Nat × Obj)) (y : Option (Value × Int × Int)) (a : Int × Unit) : Option (Option (Value × Int × Int) × Int) := r_spec_l01Below (e_spec_l01Byte A) N0 y a.1
def r_spec_l03Put_L2 (_N : Nat) (s : ((List (Int × (Int × Int))) × ((Int × (Int × Int)) × (Bool × ((List (Int × (Int × Int))) × (Int × (Int × Unit))))))) (kc ke : ((List (Int × (Int × Int))) × ((Int × (Int × Int)) × (Bool × ((List (Int × (Int × Int))) × (Int × (Int × Unit)))))) → Option (List (Int × (Int × Int)))) : Option (List (Int × (Int × Int))) :=
  (cond (decide (s.2.2.2.2.2.1 < s.2.2.2.2.1))
    (Option.bind (getI s.2.2.2.1 s.2.2.2.2.2.1) fun (x1 : (Int × (Int × Int))) =>
    (cond (!s.2.2.1)
      (cond (decide (x1.1 > s.2.1.1))
        (cond (Nat.ble ((List.length s.1) + (List.length (s.2.1 :: ([] : List (Int × (Int × Int)))))) 17179869184)
          (cond (Nat.ble ((List.length (s.1 ++ (s.2.1 :: ([] : List (Int × (Int × Int)))))) + (List.length (x1 :: ([] : List (Int × (Int × Int)))))) 17179869184)
            (kc (((s.1 ++ (s.2.1 :: ([] : List (Int × (Int × Int))))) ++ (x1 :: ([] : List (Int × (Int × Int))))), (s.2.1, (true, (s.2.2.2.1, (s.2.2.2.2.1, ((wr (s.2.2.2.2.2.1 + (1 : Int))), ())))))))
            none)
          none)
        (cond (decide (x1.1 = s.2.1.1))
          (cond (decide (x1.2.1 > s.2.1.2.1))
            (cond (Nat.ble ((List.length s.1) + (List.length (s.2.1 :: ([] : List (Int × (Int × Int)))))) 17179869184)
              (cond (Nat.ble ((List.length (s.1 ++ (s.2.1 :: ([] : List (Int × (Int × Int)))))) + (List.length (x1 :: ([] : List (Int × (Int × Int)))))) 17179869184)
                (kc (((s.1 ++ (s.2.1 :: ([] : List (Int × (Int × Int))))) ++ (x1 :: ([] : List (Int × (Int × Int))))), (s.2.1, (true, (s.2.2.2.1, (s.2.2.2.2.1, ((wr (s.2.2.2.2.2.1 + (1 : Int))), ())))))))
                none)
              none)
            (cond (Nat.ble ((List.length s.1) + (List.length (x1 :: ([] : List (Int × (Int × Int)))))) 17179869184)
              (kc ((s.1 ++ (x1 :: ([] : List (Int × (Int × Int))))), (s.2.1, (s.2.2.1, (s.2.2.2.1, (s.2.2.2.2.1, ((wr (s.2.2.2.2.2.1 + (1 : Int))), ())))))))
              none))
          (cond (Nat.ble ((List.length s.1) + (List.length (x1 :: ([] : List (Int × (Int × Int)))))) 17179869184)
            (kc ((s.1 ++ (x1 :: ([] : List (Int × (Int × Int))))), (s.2.1, (s.2.2.1, (s.2.2.2.1, (s.2.2.2.2.1, ((wr (s.2.2.2.2.2.1 + (1 : Int))), ())))))))
            none)))
      (cond (Nat.ble ((List.length s.1) + (List.length (x1 :: ([] : List (Int × (Int × Int)))))) 17179869184)
        (kc ((s.1 ++ (x1 :: ([] : List (Int × (Int × Int))))), (s.2.1, (s.2.2.1, (s.2.2.2.1, (s.2.2.2.2.1, ((wr (s.2.2.2.2.2.1 + (1 : Int))), ())))))))
        none)))
    (ke (s.1, (s.2.1, (s.2.2.1, (s.2.2.2.1, (s.2.2.2.2.1, (s.2.2.2.2.2.1, ()))))))))
def r_spec_l03Put_L0 (_N : Nat) (s : (Bool × ((List (Int × (Int × Int))) × ((Int × (Int × Int)) × (Bool × ((List (Int × (Int × Int))) × (Int × (Int × Unit)))))))) (kc ke : (Bool × ((List (Int × (Int × Int))) × ((Int × (Int × Int)) × (Bool × ((List (Int × (Int × Int))) × (Int × (Int × Unit))))))) → Option (List (Int × (Int × Int)))) : Option (List (Int × (Int × Int))) :=
  (cond (decide (s.2.2.2.2.2.2.1 < s.2.2.2.2.2.1))
    (Option.bind (getI s.2.2.2.2.1 s.2.2.2.2.2.2.1) fun (x1 : (Int × (Int × Int))) =>
    (cond (decide (x1.1 = s.2.2.1.1))
      (cond (decide (x1.2.1 = s.2.2.1.2.1))
        (cond s.1
          (kc (s.1, (s.2.1, ((s.2.2.1.1, (s.2.2.1.2.1, (wr (s.2.2.1.2.2 + x1.2.2)))), (s.2.2.2.1, (s.2.2.2.2.1, (s.2.2.2.2.2.1, ((wr (s.2.2.2.2.2.2.1 + (1 : Int))), ()))))))))
          (kc (s.1, (s.2.1, (s.2.2.1, (s.2.2.2.1, (s.2.2.2.2.1, (s.2.2.2.2.2.1, ((wr (s.2.2.2.2.2.2.1 + (1 : Int))), ())))))))))
        (cond (Nat.ble ((List.length s.2.1) + (List.length (x1 :: ([] : List (Int × (Int × Int)))))) 17179869184)
          (kc (s.1, ((s.2.1 ++ (x1 :: ([] : List (Int × (Int × Int))))), (s.2.2.1, (s.2.2.2.1, (s.2.2.2.2.1, (s.2.2.2.2.2.1, ((wr (s.2.2.2.2.2.2.1 + (1 : Int))), ()))))))))
          none))
      (cond (Nat.ble ((List.length s.2.1) + (List.length (x1 :: ([] : List (Int × (Int × Int)))))) 17179869184)
        (kc (s.1, ((s.2.1 ++ (x1 :: ([] : List (Int × (Int × Int))))), (s.2.2.1, (s.2.2.2.1, (s.2.2.2.2.1, (s.2.2.2.2.2.1, ((wr (s.2.2.2.2.2.2.1 + (1 : Int))), ()))))))))
        none)))
    (ke (s.1, (s.2.1, (s.2.2.1, (s.2.2.2.1, (s.2.2.2.2.1, (s.2.2.2.2.2.1, (s.2.2.2.2.2.2.1, ())))))))))
def r_spec_l03Put (N : Nat) (a0 : (List (Int × (Int × Int)))) (a1 : Int) (a2 : Int) (a3 : Int) (a4 : Bool) : Option (List (Int × (Int × Int))) :=
  (iterK (r_spec_l03Put_L0 N) N (a4, (([] : List (Int × (Int × Int))), (((@ite @Int (a2 < a1) (@Int.decLt a2 a1) a2 a1), ((@ite @Int (a2 > a1) (@Int.decLt a1 a2) a2 a1), a3)), (false, (a0, ((((List.length a0) : Nat) : Int), ((0 : Int), ()))))))) fun (s1 : (Bool × ((List (Int × (Int × Int))) × ((Int × (Int × Int)) × (Bool × ((List (Int × (Int × Int))) × (Int × (Int × Unit)))))))) =>
  (iterK (r_spec_l03Put_L2 N) N (([] : List (Int × (Int × Int))), (s1.2.2.1, (s1.2.2.2.1, (s1.2.1, ((((List.length s1.2.1) : Nat) : Int), ((0 : Int), ())))))) fun (s2 : ((List (Int × (Int × Int))) × ((Int × (Int × Int)) × (Bool × ((List (Int × (Int × Int))) × (Int × (Int × Unit))))))) =>
  (cond (!s2.2.2.1)
    (cond (Nat.ble ((List.length s2.1) + (List.length (s2.2.1 :: ([] : List (Int × (Int × Int)))))) 17179869184)
      (some (s2.1 ++ (s2.2.1 :: ([] : List (Int × (Int × Int))))))
      none)
    (some s2.1))))
noncomputable def e_spec_l03Put (a : (List (Int × Int × Int)) × Int × Int × Int × Bool × Unit) : Option (List (Int × Int × Int)) := r_spec_l03Put N0 a.1 a.2.1 a.2.2.1 a.2.2.2.1 a.2.2.2.2.1
def r_spec_l03Draw_L2 (k_spec_l01Below : (Option (Value × Int × Int) → (Int × Unit) → Option (Option (Value × Int × Int) × Int))) (c_spec_l03Put : ((List (Int × Int × Int)) × Int × Int × Int × Bool × Unit → Option (List (Int × Int × Int)))) (_N : Nat) (s : ((Option (Value × (Int × Int))) × (TNw × (TNw × (Int × Unit))))) (kc ke : ((Option (Value × (Int × Int))) × (TNw × (TNw × (Int × Unit)))) → Option ((Option (Value × (Int × Int))) × TNw)) : Option ((Option (Value × (Int × Int))) × TNw) :=
  (cond (decide (s.2.2.2.1 > (0 : Int)))
    (Option.bind (k_spec_l01Below s.1 (s.2.2.1.1, ())) fun (x1 : ((Option (Value × (Int × Int))) × Int)) =>
    (Option.bind (k_spec_l01Below x1.1 (s.2.2.1.1, ())) fun (x2 : ((Option (Value × (Int × Int))) × Int)) =>
    (cond (!(decide (x1.2 = x2.2)))
      (Option.bind (k_spec_l01Below x2.1 ((6 : Int), ())) fun (x3 : ((Option (Value × (Int × Int))) × Int)) =>
      (Option.bind (c_spec_l03Put (s.2.2.1.2.2.2, (x1.2, (x2.2, ((wr ((1 : Int) + x3.2)), (false, ())))))) fun (x4 : (List (Int × (Int × Int)))) =>
      (kc (x3.1, (s.2.1, ((s.2.2.1.1, (s.2.2.1.2.1, (s.2.2.1.2.2.1, x4))), ((wr (s.2.2.2.1 - (1 : Int))), ())))))))
      (kc (x2.1, (s.2.1, (s.2.2.1, ((wr (s.2.2.2.1 - (1 : Int))), ()))))))))
    (ke (s.1, (s.2.1, (s.2.2.1, (s.2.2.2.1, ()))))))
def r_spec_l03Draw_L0 (k_spec_l01Below : (Option (Value × Int × Int) → (Int × Unit) → Option (Option (Value × Int × Int) × Int))) (c_spec_l03Put : ((List (Int × Int × Int)) × Int × Int × Int × Bool × Unit → Option (List (Int × Int × Int)))) (_N : Nat) (s : ((Option (Value × (Int × Int))) × (TNw × (TNw × (Int × Unit))))) (kc ke : ((Option (Value × (Int × Int))) × (TNw × (TNw × (Int × Unit)))) → Option ((Option (Value × (Int × Int))) × TNw)) : Option ((Option (Value × (Int × Int))) × TNw) :=
  (cond (decide (s.2.2.2.1 < s.2.2.1.1))
    (Option.bind (k_spec_l01Below s.1 (s.2.2.2.1, ())) fun (x1 : ((Option (Value × (Int × Int))) × Int)) =>
    (Option.bind (k_spec_l01Below x1.1 ((6 : Int), ())) fun (x2 : ((Option (Value × (Int × Int))) × Int)) =>
    (Option.bind (c_spec_l03Put (s.2.2.1.2.2.2, (x1.2, (s.2.2.2.1, ((wr ((1 : Int) + x2.2)), (false, ())))))) fun (x3 : (List (Int × (Int × Int)))) =>
    (kc (x2.1, (s.2.1, ((s.2.2.1.1, (s.2.2.1.2.1, (s.2.2.1.2.2.1, x3))), ((wr (s.2.2.2.1 + (1 : Int))), ()))))))))
    (ke (s.1, (s.2.1, (s.2.2.1, (s.2.2.2.1, ()))))))
def r_spec_l03Draw (k_spec_l01Below : (Option (Value × Int × Int) → (Int × Unit) → Option (Option (Value × Int × Int) × Int))) (c_spec_l03Put : ((List (Int × Int × Int)) × Int × Int × Int × Bool × Unit → Option (List (Int × Int × Int)))) (N : Nat) (a0 : (Option (Value × (Int × Int)))) (a1 : Int) : Option ((Option (Value × (Int × Int))) × TNw) :=
  (Option.bind (k_spec_l01Below a0 ((wr (a1 - (1 : Int))), ())) fun (x1 : ((Option (Value × (Int × Int))) × Int)) =>
  (Option.bind (k_spec_l01Below x1.1 ((3 : Int), ())) fun (x2 : ((Option (Value × (Int × Int))) × Int)) =>
  (cond (decide ((wr ((2 : Int) + x1.2)) > (2 : Int)))
    (Option.bind (k_spec_l01Below x2.1 ((wr ((wr ((2 : Int) + x1.2)) - (1 : Int))), ())) fun (x3 : ((Option (Value × (Int × Int))) × Int)) =>
    (iterK (r_spec_l03Draw_L0 k_spec_l01Below c_spec_l03Put N) N (x3.1, (((0 : Int), ((0 : Int), ((0 : Int), ([] : List (Int × (Int × Int)))))), (((wr ((2 : Int) + x1.2)), ((wr ((2 : Int) + x3.2)), ((wr ((1 : Int) + x2.2)), ([] : List (Int × (Int × Int)))))), ((1 : Int), ())))) fun (s4 : ((Option (Value × (Int × Int))) × (TNw × (TNw × (Int × Unit))))) =>
    (Option.bind (k_spec_l01Below s4.1 ((4 : Int), ())) fun (x5 : ((Option (Value × (Int × Int))) × Int)) =>
    (iterK (r_spec_l03Draw_L2 k_spec_l01Below c_spec_l03Put N) N (x5.1, (s4.2.1, (s4.2.2.1, (x5.2, ())))) fun (s6 : ((Option (Value × (Int × Int))) × (TNw × (TNw × (Int × Unit))))) =>
    (some (s6.1, s6.2.2.1))))))
    (iterK (r_spec_l03Draw_L0 k_spec_l01Below c_spec_l03Put N) N (x2.1, (((0 : Int), ((0 : Int), ((0 : Int), ([] : List (Int × (Int × Int)))))), (((wr ((2 : Int) + x1.2)), ((2 : Int), ((wr ((1 : Int) + x2.2)), ([] : List (Int × (Int × Int)))))), ((1 : Int), ())))) fun (s7 : ((Option (Value × (Int × Int))) × (TNw × (TNw × (Int × Unit))))) =>
    (Option.bind (k_spec_l01Below s7.1 ((4 : Int), ())) fun (x8 : ((Option (Value × (Int × Int))) × Int)) =>
    (iterK (r_spec_l03Draw_L2 k_spec_l01Below c_spec_l03Put N) N (x8.1, (s7.2.1, (s7.2.2.1, (x8.2, ())))) fun (s9 : ((Option (Value × (Int × Int))) × (TNw × (TNw × (Int × Unit))))) =>
    (some (s9.1, s9.2.2.1))))))))
noncomputable def e_spec_l03Draw (A : Option (Nat × Obj)) (y : Option (Value × Int × Int)) (a : Int × Unit) : Option (Option (Value × Int × Int) × TNw) := r_spec_l03Draw (e_spec_l01Below A) e_spec_l03Put N0 y a.1
def r_spec_MakeInner (c_spec_l01New : (Value × Unit → Option (Option (Value × Int × Int)))) (k_spec_l03Draw : (Option (Value × Int × Int) → (Int × Unit) → Option (Option (Value × Int × Int) × TNw))) (k_spec_l01Below : (Option (Value × Int × Int) → (Int × Unit) → Option (Option (Value × Int × Int) × Int))) (_N : Nat) (a0 : Value) : Option TNw :=
  (Option.bind (c_spec_l01New (a0, ())) fun (x1 : (Option (Value × (Int × Int)))) =>
  (Option.bind (k_spec_l03Draw x1 ((5 : Int), ())) fun (x2 : ((Option (Value × (Int × Int))) × TNw)) =>
  (cond (decide (x2.2.1 = (2 : Int)))
    (Option.bind (k_spec_l01Below x2.1 ((3 : Int), ())) fun (x3 : ((Option (Value × (Int × Int))) × Int)) =>
    (some ((3 : Int), ((2 : Int), ((1 : Int), (((0 : Int), ((2 : Int), (wr ((1 : Int) + x3.2)))) :: (((1 : Int), ((2 : Int), (2 : Int))) :: ([] : List (Int × (Int × Int))))))))))
    (some (x2.2.1, ((2 : Int), x2.2.2.2))))))
noncomputable def e_spec_MakeInner (A : Option (Nat × Obj)) (a : Value × Unit) : Option TNw := r_spec_MakeInner (e_spec_l01New A) (e_spec_l03Draw A) (e_spec_l01Below A) N0 a.1
def r_slices_Index_bool_L0 (_N : Nat) (s : ((List Bool) × (Bool × (Int × (Int × Unit))))) (kc ke : ((List Bool) × (Bool × (Int × (Int × Unit)))) → Option Int) : Option Int :=
  (cond (decide (s.2.2.2.1 < s.2.2.1))
    (Option.bind (getI s.1 s.2.2.2.1) fun (x1 : Bool) =>
    (cond (beqB s.2.1 x1)
      (some s.2.2.2.1)
      (kc (s.1, (s.2.1, (s.2.2.1, ((wr (s.2.2.2.1 + (1 : Int))), ())))))))
    (ke (s.1, (s.2.1, (s.2.2.1, (s.2.2.2.1, ()))))))
def r_slices_Index_bool (N : Nat) (a0 : (List Bool)) (a1 : Bool) : Option Int :=
  (iterK (r_slices_Index_bool_L0 N) N (a0, (a1, ((((List.length a0) : Nat) : Int), ((0 : Int), ())))) fun (_s1 : ((List Bool) × (Bool × (Int × (Int × Unit))))) =>
  (some (-(1 : Int))))
noncomputable def e_slices_Index_bool (a : (List Bool) × Bool × Unit) : Option Int := r_slices_Index_bool N0 a.1 a.2.1
def r_slices_Contains_bool (c_slices_Index_bool : ((List Bool) × Bool × Unit → Option Int)) (_N : Nat) (a0 : (List Bool)) (a1 : Bool) : Option Bool :=
  (Option.bind (c_slices_Index_bool (a0, (a1, ()))) fun (x1 : Int) =>
  (some (decide (x1 ≥ (0 : Int)))))
noncomputable def e_slices_Contains_bool (a : (List Bool) × Bool × Unit) : Option Bool := r_slices_Contains_bool e_slices_Index_bool N0 a.1 a.2.1
def r_cmp_isNaN_int (_N : Nat) (a0 : Int) : Option Bool :=
  (some (!(decide (a0 = a0))))
noncomputable def e_cmp_isNaN_int (a : Int × Unit) : Option Bool := r_cmp_isNaN_int N0 a.1
def r_cmp_Compare_int (c_cmp_isNaN_int : (Int × Unit → Option Bool)) (_N : Nat) (a0 : Int) (a1 : Int) : Option Int :=
  (Option.bind (c_cmp_isNaN_int (a0, ())) fun (x1 : Bool) =>
  (Option.bind (c_cmp_isNaN_int (a1, ())) fun (x2 : Bool) =>
  (cond x1
    (cond x2
      (some (0 : Int))
      (some (-(1 : Int))))
    (cond x2
      (some (1 : Int))
      (cond (decide (a0 < a1))
        (some (-(1 : Int)))
        (cond (decide (a0 > a1))
          (some (1 : Int))
          (some (0 : Int))))))))
noncomputable def e_cmp_Compare_int (a : Int × Int × Unit) : Option Int := r_cmp_Compare_int e_cmp_isNaN_int N0 a.1 a.2.1
def r_cmp_Or_int_L0 (_N : Nat) (s : (Int × ((List Int) × (Int × (Int × Unit))))) (kc ke : (Int × ((List Int) × (Int × (Int × Unit)))) → Option Int) : Option Int :=
  (cond (decide (s.2.2.2.1 < s.2.2.1))
    (Option.bind (getI s.2.1 s.2.2.2.1) fun (x1 : Int) =>
    (cond (!(decide (x1 = s.1)))
      (some x1)
      (kc (s.1, (s.2.1, (s.2.2.1, ((wr (s.2.2.2.1 + (1 : Int))), ())))))))
    (ke (s.1, (s.2.1, (s.2.2.1, (s.2.2.2.1, ()))))))
def r_cmp_Or_int (N : Nat) (a0 : (List Int)) : Option Int :=
  (iterK (r_cmp_Or_int_L0 N) N ((0 : Int), (a0, ((((List.length a0) : Nat) : Int), ((0 : Int), ())))) fun (s1 : (Int × ((List Int) × (Int × (Int × Unit))))) =>
  (some s1.1))
noncomputable def e_cmp_Or_int (a : (List Int) × Unit) : Option Int := r_cmp_Or_int N0 a.1
def r_impl_byEnds (c_cmp_Compare_int : (Int × Int × Unit → Option Int)) (c_cmp_Or_int : ((List Int) × Unit → Option Int)) (_N : Nat) (a0 : (Int × (Int × Int))) (a1 : (Int × (Int × Int))) : Option Int :=
  (Option.bind (c_cmp_Compare_int (a0.1, (a1.1, ()))) fun (x1 : Int) =>
  (Option.bind (c_cmp_Compare_int (a0.2.1, (a1.2.1, ()))) fun (x2 : Int) =>
  (Option.bind (c_cmp_Or_int ((x1 :: (x2 :: ([] : List Int))), ())) fun (x3 : Int) =>
  (some x3))))
noncomputable def e_impl_byEnds (a : (Int × Int × Int) × (Int × Int × Int) × Unit) : Option Int := r_impl_byEnds e_cmp_Compare_int e_cmp_Or_int N0 a.1 a.2.1
def r_impl_NetOk_L4 (_c_slices_Contains_bool : ((List Bool) × Bool × Unit → Option Bool)) (_c_impl_byEnds : ((Int × Int × Int) × (Int × Int × Int) × Unit → Option Int)) (_N : Nat) (s : (TNw × ((List Bool) × (Int × (Int × ((List (Int × (Int × Int))) × (Int × (Int × Unit)))))))) (kc ke : (TNw × ((List Bool) × (Int × (Int × ((List (Int × (Int × Int))) × (Int × (Int × Unit))))))) → Option Bool) : Option Bool :=
  (cond (decide (s.2.2.2.2.2.2.1 < s.2.2.2.2.2.1))
    (Option.bind (getI s.2.2.2.2.1 s.2.2.2.2.2.2.1) fun (x1 : (Int × (Int × Int))) =>
    (Option.bind (getI s.2.1 x1.1) fun (x2 : Bool) =>
    (cond x2
      (Option.bind (getI s.2.1 x1.1) fun (_x3 : Bool) =>
      (Option.bind (getI (List.set s.2.1 (Int.toNat x1.1) true) x1.2.1) fun (_x4 : Bool) =>
      (kc (s.1, ((List.set (List.set s.2.1 (Int.toNat x1.1) true) (Int.toNat x1.2.1) true), (s.2.2.1, (s.2.2.2.1, (s.2.2.2.2.1, (s.2.2.2.2.2.1, ((wr (s.2.2.2.2.2.2.1 + (1 : Int))), ()))))))))))
      (Option.bind (getI s.2.1 x1.2.1) fun (x5 : Bool) =>
      (cond x5
        (Option.bind (getI s.2.1 x1.1) fun (_x6 : Bool) =>
        (Option.bind (getI (List.set s.2.1 (Int.toNat x1.1) true) x1.2.1) fun (_x7 : Bool) =>
        (kc (s.1, ((List.set (List.set s.2.1 (Int.toNat x1.1) true) (Int.toNat x1.2.1) true), (s.2.2.1, (s.2.2.2.1, (s.2.2.2.2.1, (s.2.2.2.2.2.1, ((wr (s.2.2.2.2.2.2.1 + (1 : Int))), ()))))))))))
        (kc (s.1, (s.2.1, (s.2.2.1, (s.2.2.2.1, (s.2.2.2.2.1, (s.2.2.2.2.2.1, ((wr (s.2.2.2.2.2.2.1 + (1 : Int))), ())))))))))))))
    (ke (s.1, (s.2.1, (s.2.2.1, (s.2.2.2.1, (s.2.2.2.2.1, (s.2.2.2.2.2.1, (s.2.2.2.2.2.2.1, ())))))))))
def r_impl_NetOk_L2 (c_slices_Contains_bool : ((List Bool) × Bool × Unit → Option Bool)) (c_impl_byEnds : ((Int × Int × Int) × (Int × Int × Int) × Unit → Option Int)) (N : Nat) (s : (TNw × ((List Bool) × (Int × (Int × Unit))))) (kc ke : (TNw × ((List Bool) × (Int × (Int × Unit)))) → Option Bool) : Option Bool :=
  (cond (decide (s.2.2.2.1 < s.2.2.1))
    (iterK (r_impl_NetOk_L4 c_slices_Contains_bool c_impl_byEnds N) N (s.1, (s.2.1, (s.2.2.1, (s.2.2.2.1, (s.1.2.2.2, ((((List.length s.1.2.2.2) : Nat) : Int), ((0 : Int), ()))))))) fun (s1 : (TNw × ((List Bool) × (Int × (Int × ((List (Int × (Int × Int))) × (Int × (Int × Unit)))))))) =>
    (kc (s1.1, (s1.2.1, (s1.2.2.1, ((wr (s1.2.2.2.1 + (1 : Int))), ()))))))
    (ke (s.1, (s.2.1, (s.2.2.1, (s.2.2.2.1, ()))))))
def r_impl_NetOk_L0 (_c_slices_Contains_bool : ((List Bool) × Bool × Unit → Option Bool)) (c_impl_byEnds : ((Int × Int × Int) × (Int × Int × Int) × Unit → Option Int)) (_N : Nat) (s : (TNw × ((List (Int × (Int × Int))) × (Int × (Int × Unit))))) (kc ke : (TNw × ((List (Int × (Int × Int))) × (Int × (Int × Unit)))) → Option Bool) : Option Bool :=
  (cond (decide (s.2.2.2.1 < s.2.2.1))
    (Option.bind (getI s.2.1 s.2.2.2.1) fun (x1 : (Int × (Int × Int))) =>
    (cond (decide (x1.1 < (0 : Int)))
      (some false)
      (cond (decide (x1.1 ≥ x1.2.1))
        (some false)
        (cond (decide (x1.2.1 ≥ s.1.1))
          (some false)
          (cond (decide (x1.2.2 < (1 : Int)))
            (some false)
            (cond (decide (x1.2.2 > (200 : Int)))
              (some false)
              (cond (decide (s.2.2.2.1 > (0 : Int)))
                (Option.bind (getI s.1.2.2.2 (wr (s.2.2.2.1 - (1 : Int)))) fun (x2 : (Int × (Int × Int))) =>
                (Option.bind (c_impl_byEnds (x2, (x1, ()))) fun (x3 : Int) =>
                (cond (decide (x3 ≥ (0 : Int)))
                  (some false)
                  (kc (s.1, (s.2.1, (s.2.2.1, ((wr (s.2.2.2.1 + (1 : Int))), ()))))))))
                (kc (s.1, (s.2.1, (s.2.2.1, ((wr (s.2.2.2.1 + (1 : Int))), ()))))))))))))
    (ke (s.1, (s.2.1, (s.2.2.1, (s.2.2.2.1, ()))))))
def r_impl_NetOk (c_slices_Contains_bool : ((List Bool) × Bool × Unit → Option Bool)) (c_impl_byEnds : ((Int × Int × Int) × (Int × Int × Int) × Unit → Option Int)) (N : Nat) (a0 : TNw) : Option Bool :=
  (cond (decide (a0.1 < (1 : Int)))
    (some false)
    (cond (decide (a0.1 > (5 : Int)))
      (some false)
      (cond (decide (a0.2.1 < (1 : Int)))
        (some false)
        (cond (decide (a0.2.1 > a0.1))
          (some false)
          (cond (decide (a0.2.2.1 < (1 : Int)))
            (some false)
            (cond (decide (a0.2.2.1 > (1000 : Int)))
              (some false)
              (iterK (r_impl_NetOk_L0 c_slices_Contains_bool c_impl_byEnds N) N (a0, (a0.2.2.2, ((((List.length a0.2.2.2) : Nat) : Int), ((0 : Int), ())))) fun (s1 : (TNw × ((List (Int × (Int × Int))) × (Int × (Int × Unit))))) =>
              (cond (decide ((0 : Int) ≤ s1.1.1))
                (cond (Nat.ble (Int.toNat s1.1.1) 17179869184)
                  (Option.bind (getI (List.replicate (Int.toNat s1.1.1) false) (0 : Int)) fun (_x2 : Bool) =>
                  (iterK (r_impl_NetOk_L2 c_slices_Contains_bool c_impl_byEnds N) N (s1.1, ((List.set (List.replicate (Int.toNat s1.1.1) false) (Int.toNat (0 : Int)) true), (s1.1.1, ((0 : Int), ())))) fun (s3 : (TNw × ((List Bool) × (Int × (Int × Unit))))) =>
                  (Option.bind (c_slices_Contains_bool (s3.2.1, (false, ()))) fun (x4 : Bool) =>
                  (some (!x4)))))
                  none)
                none))))))))
noncomputable def e_impl_NetOk (a : TNw × Unit) : Option Bool := r_impl_NetOk e_slices_Contains_bool e_impl_byEnds N0 a.1
noncomputable def r_slices_Clone_impl_Wire (_N : Nat) (a0 : (List (Int × (Int × Int)))) : Option (List (Int × (Int × Int))) :=
  (cond (List.isEmpty a0)
    (agree
      (some ([] : List (Int × (Int × Int))))
      (cond (Nat.ble ((List.length ([] : List (Int × (Int × Int)))) + (List.length a0)) 17179869184)
        (some (([] : List (Int × (Int × Int))) ++ a0))
        none))
    (cond (Nat.ble ((List.length ([] : List (Int × (Int × Int)))) + (List.length a0)) 17179869184)
      (some (([] : List (Int × (Int × Int))) ++ a0))
      none))
noncomputable def e_slices_Clone_impl_Wire (a : (List (Int × Int × Int)) × Unit) : Option (List (Int × Int × Int)) := r_slices_Clone_impl_Wire N0 a.1
def r_impl_copyNet (c_slices_Clone_impl_Wire : ((List (Int × Int × Int)) × Unit → Option (List (Int × Int × Int)))) (_N : Nat) (a0 : TNw) : Option TNw :=
  (Option.bind (c_slices_Clone_impl_Wire (a0.2.2.2, ())) fun (x1 : (List (Int × (Int × Int)))) =>
  (some (a0.1, (a0.2.1, (a0.2.2.1, x1)))))
noncomputable def e_impl_copyNet (a : TNw × Unit) : Option TNw := r_impl_copyNet e_slices_Clone_impl_Wire N0 a.1
def r_impl_inner_L0 (_N : Nat) (s : (TNw × ((List Int) × (Int × Unit)))) (kc ke : (TNw × ((List Int) × (Int × Unit))) → Option (List Int)) : Option (List Int) :=
  (cond (decide (s.2.2.1 < s.1.1))
    (cond (Nat.ble ((List.length s.2.1) + (List.length (s.2.2.1 :: ([] : List Int)))) 17179869184)
      (kc (s.1, ((s.2.1 ++ (s.2.2.1 :: ([] : List Int))), ((wr (s.2.2.1 + (1 : Int))), ()))))
      none)
    (ke (s.1, (s.2.1, (s.2.2.1, ())))))
def r_impl_inner (N : Nat) (a0 : TNw) : Option (List Int) :=
  (iterK (r_impl_inner_L0 N) N (a0, (([] : List Int), (a0.2.1, ()))) fun (s1 : (TNw × ((List Int) × (Int × Unit)))) =>
  (some s1.2.1))
noncomputable def e_impl_inner (a : TNw × Unit) : Option (List Int) := r_impl_inner N0 a.1
def r_impl_isNode (_N : Nat) (a0 : TNw) (a1 : Int) : Option Bool :=
  (cond (decide (a1 ≥ (0 : Int)))
    (some (decide (a1 < a0.1)))
    (some false))
noncomputable def e_impl_isNode (a : TNw × Int × Unit) : Option Bool := r_impl_isNode N0 a.1 a.2.1
def r_impl_WeightBetween_L0 (_N : Nat) (s : (Int × (Int × ((List (Int × (Int × Int))) × (Int × (Int × Unit)))))) (kc ke : (Int × (Int × ((List (Int × (Int × Int))) × (Int × (Int × Unit))))) → Option Int) : Option Int :=
  (cond (decide (s.2.2.2.2.1 < s.2.2.2.1))
    (Option.bind (getI s.2.2.1 s.2.2.2.2.1) fun (x1 : (Int × (Int × Int))) =>
    (cond (!(decide (s.1 = s.2.1)))
      (cond (decide (x1.1 = s.1))
        (cond (decide (x1.2.1 = s.2.1))
          (some x1.2.2)
          (cond (decide (x1.1 = s.2.1))
            (cond (decide (x1.2.1 = s.1))
              (some x1.2.2)
              (kc (s.1, (s.2.1, (s.2.2.1, (s.2.2.2.1, ((wr (s.2.2.2.2.1 + (1 : Int))), ())))))))
            (kc (s.1, (s.2.1, (s.2.2.1, (s.2.2.2.1, ((wr (s.2.2.2.2.1 + (1 : Int))), ()))))))))
        (cond (decide (x1.1 = s.2.1))
          (cond (decide (x1.2.1 = s.1))
            (some x1.2.2)
            (kc (s.1, (s.2.1, (s.2.2.1, (s.2.2.2.1, ((wr (s.2.2.2.2.1 + (1 : Int))), ())))))))
          (kc (s.1, (s.2.1, (s.2.2.1, (s.2.2.2.1, ((wr (s.2.2.2.2.1 + (1 : Int))), ()))))))))
      (kc (s.1, (s.2.1, (s.2.2.1, (s.2.2.2.1, ((wr (s.2.2.2.2.1 + (1 : Int))), ()))))))))
    (ke (s.1, (s.2.1, (s.2.2.1, (s.2.2.2.1, (s.2.2.2.2.1, ())))))))
def r_impl_WeightBetween (N : Nat) (a0 : TNw) (a1 : Int) (a2 : Int) : Option Int :=
  (iterK (r_impl_WeightBetween_L0 N) N (a1, (a2, (a0.2.2.2, ((((List.length a0.2.2.2) : Nat) : Int), ((0 : Int), ()))))) fun (_s1 : (Int × (Int × ((List (Int × (Int × Int))) × (Int × (Int × Unit)))))) =>
  (some (0 : Int)))
noncomputable def e_impl_WeightBetween (a : TNw × Int × Int × Unit) : Option Int := r_impl_WeightBetween N0 a.1 a.2.1 a.2.2.1
def r_impl_WiresAt_L0 (_c_impl_NetOk : (TNw × Unit → Option Bool)) (_c_impl_isNode : (TNw × Int × Unit → Option Bool)) (c_impl_WeightBetween : (TNw × Int × Int × Unit → Option Int)) (_N : Nat) (s : (Int × (TNw × ((List Int) × (Int × (Int × Unit)))))) (kc ke : (Int × (TNw × ((List Int) × (Int × (Int × Unit))))) → Option (List Int)) : Option (List Int) :=
  (cond (decide (s.2.2.2.2.1 < s.2.2.2.1))
    (Option.bind (c_impl_WeightBetween (s.2.1, (s.1, (s.2.2.2.2.1, ())))) fun (x1 : Int) =>
    (cond (decide (x1 > (0 : Int)))
      (cond (Nat.ble ((List.length s.2.2.1) + (List.length (s.2.2.2.2.1 :: ([] : List Int)))) 17179869184)
        (kc (s.1, (s.2.1, ((s.2.2.1 ++ (s.2.2.2.2.1 :: ([] : List Int))), (s.2.2.2.1, ((wr (s.2.2.2.2.1 + (1 : Int))), ()))))))
        none)
      (kc (s.1, (s.2.1, (s.2.2.1, (s.2.2.2.1, ((wr (s.2.2.2.2.1 + (1 : Int))), ()))))))))
    (ke (s.1, (s.2.1, (s.2.2.1, (s.2.2.2.1, (s.2.2.2.2.1, ())))))))
def r_impl_WiresAt (c_impl_NetOk : (TNw × Unit → Option Bool)) (c_impl_isNode : (TNw × Int × Unit → Option Bool)) (c_impl_WeightBetween : (TNw × Int × Int × Unit → Option Int)) (N : Nat) (a0 : TNw) (a1 : Int) : Option (List Int) :=
  (Option.bind (c_impl_NetOk (a0, ())) fun (x1 : Bool) =>
  (cond (!x1)
    (some ([] : List Int))
    (Option.bind (c_impl_isNode (a0, (a1, ()))) fun (x2 : Bool) =>
    (cond (!x2)
      (some ([] : List Int))
      (iterK (r_impl_WiresAt_L0 c_impl_NetOk c_impl_isNode c_impl_WeightBetween N) N (a1, (a0, (([] : List Int), (a0.1, ((0 : Int), ()))))) fun (s3 : (Int × (TNw × ((List Int) × (Int × (Int × Unit)))))) =>
      (some s3.2.2.1))))))
noncomputable def e_impl_WiresAt (a : TNw × Int × Unit) : Option (List Int) := r_impl_WiresAt e_impl_NetOk e_impl_isNode e_impl_WeightBetween N0 a.1 a.2.1
def r_impl_nodeWith_L0 (_c_impl_NetOk : (TNw × Unit → Option Bool)) (_c_impl_inner : (TNw × Unit → Option (List Int))) (c_impl_WiresAt : (TNw × Int × Unit → Option (List Int))) (_N : Nat) (s : (Int × (TNw × ((List Int) × (Int × (Int × Unit)))))) (kc ke : (Int × (TNw × ((List Int) × (Int × (Int × Unit))))) → Option Int) : Option Int :=
  (cond (decide (s.2.2.2.2.1 < s.2.2.2.1))
    (Option.bind (getI s.2.2.1 s.2.2.2.2.1) fun (x1 : Int) =>
    (Option.bind (c_impl_WiresAt (s.2.1, (x1, ()))) fun (x2 : (List Int)) =>
    (cond (decide ((((List.length x2) : Nat) : Int) = s.1))
      (some x1)
      (kc (s.1, (s.2.1, (s.2.2.1, (s.2.2.2.1, ((wr (s.2.2.2.2.1 + (1 : Int))), ())))))))))
    (ke (s.1, (s.2.1, (s.2.2.1, (s.2.2.2.1, (s.2.2.2.2.1, ())))))))
def r_impl_nodeWith (c_impl_NetOk : (TNw × Unit → Option Bool)) (c_impl_inner : (TNw × Unit → Option (List Int))) (c_impl_WiresAt : (TNw × Int × Unit → Option (List Int))) (N : Nat) (a0 : TNw) (a1 : Int) : Option Int :=
  (Option.bind (c_impl_NetOk (a0, ())) fun (x1 : Bool) =>
  (cond (!x1)
    (some (-(1 : Int)))
    (Option.bind (c_impl_inner (a0, ())) fun (x2 : (List Int)) =>
    (iterK (r_impl_nodeWith_L0 c_impl_NetOk c_impl_inner c_impl_WiresAt N) N (a1, (a0, (x2, ((((List.length x2) : Nat) : Int), ((0 : Int), ()))))) fun (_s3 : (Int × (TNw × ((List Int) × (Int × (Int × Unit)))))) =>
    (some (-(1 : Int)))))))
noncomputable def e_impl_nodeWith (a : TNw × Int × Unit) : Option Int := r_impl_nodeWith e_impl_NetOk e_impl_inner e_impl_WiresAt N0 a.1 a.2.1
def r_impl_LeafOf (c_impl_nodeWith : (TNw × Int × Unit → Option Int)) (_N : Nat) (a0 : TNw) : Option Int :=
  (Option.bind (c_impl_nodeWith (a0, ((1 : Int), ()))) fun (x1 : Int) =>
  (some x1))
noncomputable def e_impl_LeafOf (a : TNw × Unit) : Option Int := r_impl_LeafOf e_impl_nodeWith N0 a.1
def r_impl_SeriesOf (c_impl_nodeWith : (TNw × Int × Unit → Option Int)) (_N : Nat) (a0 : TNw) : Option Int :=
  (Option.bind (c_impl_nodeWith (a0, ((2 : Int), ()))) fun (x1 : Int) =>
  (some x1))
noncomputable def e_impl_SeriesOf (a : TNw × Unit) : Option Int := r_impl_SeriesOf e_impl_nodeWith N0 a.1
def r_impl_table_L2 (c_impl_WeightBetween : (TNw × Int × Int × Unit → Option Int)) (_N : Nat) (s : (TNw × ((List (List Int)) × (Int × (Int × (Int × (Int × (Int × Unit)))))))) (kc ke : (TNw × ((List (List Int)) × (Int × (Int × (Int × (Int × (Int × Unit))))))) → Option (List (List Int))) : Option (List (List Int)) :=
  (cond (decide (s.2.2.2.2.2.2.1 < s.2.2.2.2.2.1))
    (Option.bind (getI s.2.1 s.2.2.1) fun (x1 : (List Int)) =>
    (Option.bind (c_impl_WeightBetween (s.1, (s.2.2.1, (s.2.2.2.2.2.2.1, ())))) fun (x2 : Int) =>
    (Option.bind (getI x1 s.2.2.2.2.2.2.1) fun (_x3 : Int) =>
    (kc (s.1, ((List.set s.2.1 (Int.toNat s.2.2.1) (List.set x1 (Int.toNat s.2.2.2.2.2.2.1) x2)), (s.2.2.1, (s.2.2.2.1, (s.2.2.2.2.1, (s.2.2.2.2.2.1, ((wr (s.2.2.2.2.2.2.1 + (1 : Int))), ())))))))))))
    (ke (s.1, (s.2.1, (s.2.2.1, (s.2.2.2.1, (s.2.2.2.2.1, (s.2.2.2.2.2.1, (s.2.2.2.2.2.2.1, ())))))))))
def r_impl_table_L0 (c_impl_WeightBetween : (TNw × Int × Int × Unit → Option Int)) (N : Nat) (s : (TNw × ((List (List Int)) × (Int × (Int × Unit))))) (kc ke : (TNw × ((List (List Int)) × (Int × (Int × Unit)))) → Option (List (List Int))) : Option (List (List Int)) :=
  (cond (decide (s.2.2.2.1 < s.2.2.1))
    (cond (decide ((0 : Int) ≤ s.1.1))
      (cond (Nat.ble (Int.toNat s.1.1) 17179869184)
        (Option.bind (getI s.2.1 s.2.2.2.1) fun (_x1 : (List Int)) =>
        (Option.bind (getI (List.set s.2.1 (Int.toNat s.2.2.2.1) (List.replicate (Int.toNat s.1.1) (0 : Int))) s.2.2.2.1) fun (x2 : (List Int)) =>
        (iterK (r_impl_table_L2 c_impl_WeightBetween N) N (s.1, ((List.set s.2.1 (Int.toNat s.2.2.2.1) (List.replicate (Int.toNat s.1.1) (0 : Int))), (s.2.2.2.1, (s.2.2.1, (s.2.2.2.1, ((((List.length x2) : Nat) : Int), ((0 : Int), ()))))))) fun (s3 : (TNw × ((List (List Int)) × (Int × (Int × (Int × (Int × (Int × Unit)))))))) =>
        (kc (s3.1, (s3.2.1, (s3.2.2.2.1, ((wr (s3.2.2.2.2.1 + (1 : Int))), ()))))))))
        none)
      none)
    (ke (s.1, (s.2.1, (s.2.2.1, (s.2.2.2.1, ()))))))
def r_impl_table (c_impl_WeightBetween : (TNw × Int × Int × Unit → Option Int)) (N : Nat) (a0 : TNw) : Option (List (List Int)) :=
  (cond (decide ((0 : Int) ≤ a0.1))
    (cond (Nat.ble (Int.toNat a0.1) 17179869184)
      (iterK (r_impl_table_L0 c_impl_WeightBetween N) N (a0, ((List.replicate (Int.toNat a0.1) ([] : List Int)), ((((List.length (List.replicate (Int.toNat a0.1) ([] : List Int))) : Nat) : Int), ((0 : Int), ())))) fun (s1 : (TNw × ((List (List Int)) × (Int × (Int × Unit))))) =>
      (some s1.2.1))
      none)
    none)
noncomputable def e_impl_table (a : TNw × Unit) : Option (List (List Int)) := r_impl_table e_impl_WeightBetween N0 a.1
def r_impl_WeightAt_L0 (_N : Nat) (s : (Int × (Int × ((List (Int × (Int × Int))) × (Int × (Int × Unit)))))) (kc ke : (Int × (Int × ((List (Int × (Int × Int))) × (Int × (Int × Unit))))) → Option Int) : Option Int :=
  (cond (decide (s.2.2.2.2.1 < s.2.2.2.1))
    (Option.bind (getI s.2.2.1 s.2.2.2.2.1) fun (x1 : (Int × (Int × Int))) =>
    (cond (decide (x1.1 = s.1))
      (kc (s.1, ((wr (s.2.1 + x1.2.2)), (s.2.2.1, (s.2.2.2.1, ((wr (s.2.2.2.2.1 + (1 : Int))), ()))))))
      (cond (decide (x1.2.1 = s.1))
        (kc (s.1, ((wr (s.2.1 + x1.2.2)), (s.2.2.1, (s.2.2.2.1, ((wr (s.2.2.2.2.1 + (1 : Int))), ()))))))
        (kc (s.1, (s.2.1, (s.2.2.1, (s.2.2.2.1, ((wr (s.2.2.2.2.1 + (1 : Int))), ())))))))))
    (ke (s.1, (s.2.1, (s.2.2.1, (s.2.2.2.1, (s.2.2.2.2.1, ())))))))
def r_impl_WeightAt (N : Nat) (a0 : TNw) (a1 : Int) : Option Int :=
  (iterK (r_impl_WeightAt_L0 N) N (a1, ((0 : Int), (a0.2.2.2, ((((List.length a0.2.2.2) : Nat) : Int), ((0 : Int), ()))))) fun (s1 : (Int × (Int × ((List (Int × (Int × Int))) × (Int × (Int × Unit)))))) =>
  (some s1.2.1))
noncomputable def e_impl_WeightAt (a : TNw × Int × Unit) : Option Int := r_impl_WeightAt N0 a.1 a.2.1
noncomputable def r_slices_Clone_int (_N : Nat) (a0 : (List Int)) : Option (List Int) :=
  (cond (List.isEmpty a0)
    (agree
      (some ([] : List Int))
      (cond (Nat.ble ((List.length ([] : List Int)) + (List.length a0)) 17179869184)
        (some (([] : List Int) ++ a0))
        none))
    (cond (Nat.ble ((List.length ([] : List Int)) + (List.length a0)) 17179869184)
      (some (([] : List Int) ++ a0))
      none))
noncomputable def e_slices_Clone_int (a : (List Int) × Unit) : Option (List Int) := r_slices_Clone_int N0 a.1
noncomputable def e_slices_Delete_int (y : List Int) (a : Int × Int × Unit) : Option (List Int × List Int) := delFn y a
def r_impl_without_L0 (c_slices_Clone_int : ((List Int) × Unit → Option (List Int))) (m_slices_Delete_int : ((List Int) → (Int × Int × Unit) → Option ((List Int) × (List Int)))) (_N : Nat) (s : (Int × ((List (List Int)) × ((List (List Int)) × (Int × (Int × Unit)))))) (kc ke : (Int × ((List (List Int)) × ((List (List Int)) × (Int × (Int × Unit))))) → Option (List (List Int))) : Option (List (List Int)) :=
  (cond (decide (s.2.2.2.2.1 < s.2.2.2.1))
    (Option.bind (getI s.2.2.1 s.2.2.2.2.1) fun (x1 : (List Int)) =>
    (cond (!(decide (s.2.2.2.2.1 = s.1)))
      (Option.bind (c_slices_Clone_int (x1, ())) fun (x2 : (List Int)) =>
      (Option.bind (m_slices_Delete_int x2 (s.1, ((wr (s.1 + (1 : Int))), ()))) fun (x3 : ((List Int) × (List Int))) =>
      (cond (Nat.ble ((List.length s.2.1) + (List.length (x3.2 :: ([] : List (List Int))))) 17179869184)
        (kc (s.1, ((s.2.1 ++ (x3.2 :: ([] : List (List Int)))), (s.2.2.1, (s.2.2.2.1, ((wr (s.2.2.2.2.1 + (1 : Int))), ()))))))
        none)))
      (kc (s.1, (s.2.1, (s.2.2.1, (s.2.2.2.1, ((wr (s.2.2.2.2.1 + (1 : Int))), ()))))))))
    (ke (s.1, (s.2.1, (s.2.2.1, (s.2.2.2.1, (s.2.2.2.2.1, ())))))))
def r_impl_without (c_slices_Clone_int : ((List Int) × Unit → Option (List Int))) (m_slices_Delete_int : ((List Int) → (Int × Int × Unit) → Option ((List Int) × (List Int)))) (N : Nat) (a0 : (List (List Int))) (a1 : Int) : Option (List (List Int)) :=
  (iterK (r_impl_without_L0 c_slices_Clone_int m_slices_Delete_int N) N (a1, (([] : List (List Int)), (a0, ((((List.length a0) : Nat) : Int), ((0 : Int), ()))))) fun (s1 : (Int × ((List (List Int)) × ((List (List Int)) × (Int × (Int × Unit)))))) =>
  (some s1.2.1))
noncomputable def e_impl_without (a : (List (List Int)) × Int × Unit) : Option (List (List Int)) := r_impl_without e_slices_Clone_int e_slices_Delete_int N0 a.1 a.2.1
def r_impl_size (_N : Nat) (a0 : Int) : Option Int :=
  (cond (decide (a0 < (0 : Int)))
    (some (Go.IntKind.wrap @Go.IntKind.u64 ((0 : Int) - (Go.IntKind.wrap @Go.IntKind.u64 a0))))
    (some (Go.IntKind.wrap @Go.IntKind.u64 a0)))
noncomputable def e_impl_size (a : Int × Unit) : Option Int := r_impl_size N0 a.1
def r_impl_common_L0 (_N : Nat) (s : (Int × (Int × Unit))) (kc ke : (Int × (Int × Unit)) → Option Int) : Option Int :=
  (cond (!(decide (s.2.1 = (0 : Int))))
    (cond (decide (s.2.1 = (0 : Int)))
      none
      (kc (s.2.1, ((Int.tmod s.1 s.2.1), ()))))
    (ke (s.1, (s.2.1, ()))))
def r_impl_common (N : Nat) (a0 : Int) (a1 : Int) : Option Int :=
  (iterK (r_impl_common_L0 N) N (a0, (a1, ())) fun (s1 : (Int × (Int × Unit))) =>
  (some s1.1))
noncomputable def e_impl_common (a : Int × Int × Unit) : Option Int := r_impl_common N0 a.1 a.2.1
def r_impl_GcdOf (c_impl_size : (Int × Unit → Option Int)) (c_impl_common : (Int × Int × Unit → Option Int)) (_N : Nat) (a0 : Int) (a1 : Int) : Option Int :=
  (cond (decide (a0 = (-(9223372036854775808 : Int))))
    (some (0 : Int))
    (cond (decide (a1 = (-(9223372036854775808 : Int))))
      (some (0 : Int))
      (Option.bind (c_impl_size (a0, ())) fun (x1 : Int) =>
      (Option.bind (c_impl_size (a1, ())) fun (x2 : Int) =>
      (Option.bind (c_impl_common (x1, (x2, ()))) fun (x3 : Int) =>
      (some (wr x3)))))))
noncomputable def e_impl_GcdOf (a : Int × Int × Unit) : Option Int := r_impl_GcdOf e_impl_size e_impl_common N0 a.1 a.2.1
def r_impl_netOf_L2 (_c_impl_NetOk : (TNw × Unit → Option Bool)) (c_impl_GcdOf : (Int × Int × Unit → Option Int)) (_N : Nat) (s : ((List (List Int)) × (Bool × (TNw × (TNw × (Int × (Int × (Int × (Int × (Int × Unit)))))))))) (kc ke : ((List (List Int)) × (Bool × (TNw × (TNw × (Int × (Int × (Int × (Int × (Int × Unit))))))))) → Option (TNw × Bool)) : Option (TNw × Bool) :=
  (cond (decide (s.2.2.2.2.2.2.1 < (((List.length s.1) : Nat) : Int)))
    (Option.bind (getI s.1 s.2.2.2.2.2.1) fun (x1 : (List Int)) =>
    (Option.bind (getI x1 s.2.2.2.2.2.2.1) fun (x2 : Int) =>
    (cond (!(decide (x2 = (0 : Int))))
      (cond (Nat.ble ((List.length s.2.2.2.1.2.2.2) + (List.length ((s.2.2.2.2.2.1, (s.2.2.2.2.2.2.1, x2)) :: ([] : List (Int × (Int × Int)))))) 17179869184)
        (Option.bind (c_impl_GcdOf (s.2.2.2.2.1, (x2, ()))) fun (x3 : Int) =>
        (kc (s.1, (s.2.1, (s.2.2.1, ((s.2.2.2.1.1, (s.2.2.2.1.2.1, (s.2.2.2.1.2.2.1, (s.2.2.2.1.2.2.2 ++ ((s.2.2.2.2.2.1, (s.2.2.2.2.2.2.1, x2)) :: ([] : List (Int × (Int × Int)))))))), (x3, (s.2.2.2.2.2.1, ((wr (s.2.2.2.2.2.2.1 + (1 : Int))), (s.2.2.2.2.2.2.2.1, (s.2.2.2.2.2.2.2.2.1, ())))))))))))
        none)
      (kc (s.1, (s.2.1, (s.2.2.1, (s.2.2.2.1, (s.2.2.2.2.1, (s.2.2.2.2.2.1, ((wr (s.2.2.2.2.2.2.1 + (1 : Int))), (s.2.2.2.2.2.2.2.1, (s.2.2.2.2.2.2.2.2.1, ())))))))))))))
    (ke (s.1, (s.2.1, (s.2.2.1, (s.2.2.2.1, (s.2.2.2.2.1, (s.2.2.2.2.2.1, (s.2.2.2.2.2.2.1, (s.2.2.2.2.2.2.2.1, (s.2.2.2.2.2.2.2.2.1, ())))))))))))
def r_impl_netOf_L4 (_c_impl_NetOk : (TNw × Unit → Option Bool)) (_c_impl_GcdOf : (Int × Int × Unit → Option Int)) (_N : Nat) (s : (TNw × (TNw × (Int × (Int × (Int × Unit)))))) (kc ke : (TNw × (TNw × (Int × (Int × (Int × Unit))))) → Option (TNw × Bool)) : Option (TNw × Bool) :=
  (cond (decide (s.2.2.2.2.1 < s.2.2.2.1))
    (Option.bind (getI s.2.1.2.2.2 s.2.2.2.2.1) fun (x1 : (Int × (Int × Int))) =>
    (cond (decide (s.2.2.1 = (0 : Int)))
      none
      (Option.bind (getI s.2.1.2.2.2 s.2.2.2.2.1) fun (x2 : (Int × (Int × Int))) =>
      (kc (s.1, ((s.2.1.1, (s.2.1.2.1, (s.2.1.2.2.1, (List.set s.2.1.2.2.2 (Int.toNat s.2.2.2.2.1) (x2.1, (x2.2.1, (wr (Int.tdiv x1.2.2 s.2.2.1)))))))), (s.2.2.1, (s.2.2.2.1, ((wr (s.2.2.2.2.1 + (1 : Int))), ())))))))))
    (ke (s.1, (s.2.1, (s.2.2.1, (s.2.2.2.1, (s.2.2.2.2.1, ())))))))
def r_impl_netOf_L0 (c_impl_NetOk : (TNw × Unit → Option Bool)) (c_impl_GcdOf : (Int × Int × Unit → Option Int)) (N : Nat) (s : ((List (List Int)) × (Bool × (TNw × (TNw × (Int × (Int × (Int × Unit)))))))) (kc ke : ((List (List Int)) × (Bool × (TNw × (TNw × (Int × (Int × (Int × Unit))))))) → Option (TNw × Bool)) : Option (TNw × Bool) :=
  (cond (decide (s.2.2.2.2.2.2.1 < s.2.2.2.2.2.1))
    (iterK (r_impl_netOf_L2 c_impl_NetOk c_impl_GcdOf N) N (s.1, (s.2.1, (s.2.2.1, (s.2.2.2.1, (s.2.2.2.2.1, (s.2.2.2.2.2.2.1, ((wr (s.2.2.2.2.2.2.1 + (1 : Int))), (s.2.2.2.2.2.1, (s.2.2.2.2.2.2.1, ()))))))))) fun (s1 : ((List (List Int)) × (Bool × (TNw × (TNw × (Int × (Int × (Int × (Int × (Int × Unit)))))))))) =>
    (kc (s1.1, (s1.2.1, (s1.2.2.1, (s1.2.2.2.1, (s1.2.2.2.2.1, (s1.2.2.2.2.2.2.2.1, ((wr (s1.2.2.2.2.2.2.2.2.1 + (1 : Int))), ())))))))))
    (ke (s.1, (s.2.1, (s.2.2.1, (s.2.2.2.1, (s.2.2.2.2.1, (s.2.2.2.2.2.1, (s.2.2.2.2.2.2.1, ())))))))))
def r_impl_netOf (c_impl_NetOk : (TNw × Unit → Option Bool)) (c_impl_GcdOf : (Int × Int × Unit → Option Int)) (N : Nat) (a0 : Int) (a1 : Int) (a2 : (List (List Int))) (a3 : Bool) : Option (TNw × Bool) :=
  (iterK (r_impl_netOf_L0 c_impl_NetOk c_impl_GcdOf N) N (a2, (a3, (((0 : Int), ((0 : Int), ((0 : Int), ([] : List (Int × (Int × Int)))))), (((((List.length a2) : Nat) : Int), (a0, (a1, ([] : List (Int × (Int × Int)))))), (a1, ((((List.length a2) : Nat) : Int), ((0 : Int), ()))))))) fun (s1 : ((List (List Int)) × (Bool × (TNw × (TNw × (Int × (Int × (Int × Unit)))))))) =>
  (cond s1.2.1
    (cond (decide (s1.2.2.2.2.1 = (0 : Int)))
      none
      (iterK (r_impl_netOf_L4 c_impl_NetOk c_impl_GcdOf N) N (s1.2.2.1, ((s1.2.2.2.1.1, (s1.2.2.2.1.2.1, ((wr (Int.tdiv s1.2.2.2.1.2.2.1 s1.2.2.2.2.1)), s1.2.2.2.1.2.2.2))), (s1.2.2.2.2.1, ((((List.length s1.2.2.2.1.2.2.2) : Nat) : Int), ((0 : Int), ()))))) fun (s2 : (TNw × (TNw × (Int × (Int × (Int × Unit)))))) =>
      (Option.bind (c_impl_NetOk (s2.2.1, ())) fun (x3 : Bool) =>
      (cond (!x3)
        (some (((0 : Int), ((0 : Int), ((0 : Int), ([] : List (Int × (Int × Int)))))), false))
        (some (s2.2.1, true))))))
    (Option.bind (c_impl_NetOk (s1.2.2.2.1, ())) fun (x4 : Bool) =>
    (cond (!x4)
      (some (((0 : Int), ((0 : Int), ((0 : Int), ([] : List (Int × (Int × Int)))))), false))
      (some (s1.2.2.2.1, true))))))
noncomputable def e_impl_netOf (a : Int × Int × (List (List Int)) × Bool × Unit) : Option (TNw × Bool) := r_impl_netOf e_impl_NetOk e_impl_GcdOf N0 a.1 a.2.1 a.2.2.1 a.2.2.2.1
def r_impl_StarMesh_L2 (_c_impl_NetOk : (TNw × Unit → Option Bool)) (_c_impl_table : (TNw × Unit → Option (List (List Int)))) (_c_impl_WeightAt : (TNw × Int × Unit → Option Int)) (_c_impl_without : ((List (List Int)) × Int × Unit → Option (List (List Int)))) (_c_impl_netOf : (Int × Int × (List (List Int)) × Bool × Unit → Option (TNw × Bool))) (_N : Nat) (s : (Int × (TNw × (TNw × ((List (List Int)) × (Int × (Int × (Int × (Int × (Int × (Int × Unit))))))))))) (kc ke : (Int × (TNw × (TNw × ((List (List Int)) × (Int × (Int × (Int × (Int × (Int × (Int × Unit)))))))))) → Option (TNw × Bool)) : Option (TNw × Bool) :=
  (cond (decide (s.2.2.2.2.2.2.2.2.2.1 < s.2.2.2.2.2.2.2.2.1))
    (cond (!(decide (s.2.2.2.2.2.1 = s.1)))
      (cond (!(decide (s.2.2.2.2.2.2.2.2.2.1 = s.1)))
        (cond (!(decide (s.2.2.2.2.2.1 = s.2.2.2.2.2.2.2.2.2.1)))
          (Option.bind (getI s.2.2.2.1 s.2.2.2.2.2.1) fun (x1 : (List Int)) =>
          (Option.bind (getI s.2.2.2.1 s.2.2.2.2.2.1) fun (x2 : (List Int)) =>
          (Option.bind (getI x2 s.2.2.2.2.2.2.2.2.2.1) fun (x3 : Int) =>
          (Option.bind (getI s.2.2.2.1 s.2.2.2.2.2.1) fun (x4 : (List Int)) =>
          (Option.bind (getI x4 s.1) fun (x5 : Int) =>
          (Option.bind (getI s.2.2.2.1 s.1) fun (x6 : (List Int)) =>
          (Option.bind (getI x6 s.2.2.2.2.2.2.2.2.2.1) fun (x7 : Int) =>
          (Option.bind (getI x1 s.2.2.2.2.2.2.2.2.2.1) fun (_x8 : Int) =>
          (kc (s.1, (s.2.1, (s.2.2.1, ((List.set s.2.2.2.1 (Int.toNat s.2.2.2.2.2.1) (List.set x1 (Int.toNat s.2.2.2.2.2.2.2.2.2.1) (wr ((wr (x3 * s.2.2.2.2.1)) + (wr (x5 * x7)))))), (s.2.2.2.2.1, (s.2.2.2.2.2.1, (s.2.2.2.2.2.2.1, (s.2.2.2.2.2.2.2.1, (s.2.2.2.2.2.2.2.2.1, ((wr (s.2.2.2.2.2.2.2.2.2.1 + (1 : Int))), ())))))))))))))))))))
          (kc (s.1, (s.2.1, (s.2.2.1, (s.2.2.2.1, (s.2.2.2.2.1, (s.2.2.2.2.2.1, (s.2.2.2.2.2.2.1, (s.2.2.2.2.2.2.2.1, (s.2.2.2.2.2.2.2.2.1, ((wr (s.2.2.2.2.2.2.2.2.2.1 + (1 : Int))), ()))))))))))))
        (kc (s.1, (s.2.1, (s.2.2.1, (s.2.2.2.1, (s.2.2.2.2.1, (s.2.2.2.2.2.1, (s.2.2.2.2.2.2.1, (s.2.2.2.2.2.2.2.1, (s.2.2.2.2.2.2.2.2.1, ((wr (s.2.2.2.2.2.2.2.2.2.1 + (1 : Int))), ()))))))))))))
      (kc (s.1, (s.2.1, (s.2.2.1, (s.2.2.2.1, (s.2.2.2.2.1, (s.2.2.2.2.2.1, (s.2.2.2.2.2.2.1, (s.2.2.2.2.2.2.2.1, (s.2.2.2.2.2.2.2.2.1, ((wr (s.2.2.2.2.2.2.2.2.2.1 + (1 : Int))), ()))))))))))))
    (ke (s.1, (s.2.1, (s.2.2.1, (s.2.2.2.1, (s.2.2.2.2.1, (s.2.2.2.2.2.1, (s.2.2.2.2.2.2.1, (s.2.2.2.2.2.2.2.1, (s.2.2.2.2.2.2.2.2.1, (s.2.2.2.2.2.2.2.2.2.1, ()))))))))))))
def r_impl_StarMesh_L0 (c_impl_NetOk : (TNw × Unit → Option Bool)) (c_impl_table : (TNw × Unit → Option (List (List Int)))) (c_impl_WeightAt : (TNw × Int × Unit → Option Int)) (c_impl_without : ((List (List Int)) × Int × Unit → Option (List (List Int)))) (c_impl_netOf : (Int × Int × (List (List Int)) × Bool × Unit → Option (TNw × Bool))) (N : Nat) (s : (Int × (TNw × (TNw × ((List (List Int)) × (Int × (Int × (Int × Unit)))))))) (kc ke : (Int × (TNw × (TNw × ((List (List Int)) × (Int × (Int × (Int × Unit))))))) → Option (TNw × Bool)) : Option (TNw × Bool) :=
  (cond (decide (s.2.2.2.2.2.2.1 < s.2.2.2.2.2.1))
    (iterK (r_impl_StarMesh_L2 c_impl_NetOk c_impl_table c_impl_WeightAt c_impl_without c_impl_netOf N) N (s.1, (s.2.1, (s.2.2.1, (s.2.2.2.1, (s.2.2.2.2.1, (s.2.2.2.2.2.2.1, (s.2.2.2.2.2.1, (s.2.2.2.2.2.2.1, ((((List.length s.2.2.2.1) : Nat) : Int), ((0 : Int), ())))))))))) fun (s1 : (Int × (TNw × (TNw × ((List (List Int)) × (Int × (Int × (Int × (Int × (Int × (Int × Unit))))))))))) =>
    (kc (s1.1, (s1.2.1, (s1.2.2.1, (s1.2.2.2.1, (s1.2.2.2.2.1, (s1.2.2.2.2.2.2.1, ((wr (s1.2.2.2.2.2.2.2.1 + (1 : Int))), ())))))))))
    (ke (s.1, (s.2.1, (s.2.2.1, (s.2.2.2.1, (s.2.2.2.2.1, (s.2.2.2.2.2.1, (s.2.2.2.2.2.2.1, ())))))))))
def r_impl_StarMesh (c_impl_NetOk : (TNw × Unit → Option Bool)) (c_impl_table : (TNw × Unit → Option (List (List Int)))) (c_impl_WeightAt : (TNw × Int × Unit → Option Int)) (c_impl_without : ((List (List Int)) × Int × Unit → Option (List (List Int)))) (c_impl_netOf : (Int × Int × (List (List Int)) × Bool × Unit → Option (TNw × Bool))) (N : Nat) (a0 : TNw) (a1 : Int) : Option (TNw × Bool) :=
  (Option.bind (c_impl_NetOk (a0, ())) fun (x1 : Bool) =>
  (cond (!x1)
    (some (((0 : Int), ((0 : Int), ((0 : Int), ([] : List (Int × (Int × Int)))))), false))
    (cond (decide (a1 < a0.2.1))
      (some (((0 : Int), ((0 : Int), ((0 : Int), ([] : List (Int × (Int × Int)))))), false))
      (cond (decide (a1 ≥ a0.1))
        (some (((0 : Int), ((0 : Int), ((0 : Int), ([] : List (Int × (Int × Int)))))), false))
        (Option.bind (c_impl_table (a0, ())) fun (x2 : (List (List Int))) =>
        (Option.bind (c_impl_WeightAt (a0, (a1, ()))) fun (x3 : Int) =>
        (iterK (r_impl_StarMesh_L0 c_impl_NetOk c_impl_table c_impl_WeightAt c_impl_without c_impl_netOf N) N (a1, (a0, (((0 : Int), ((0 : Int), ((0 : Int), ([] : List (Int × (Int × Int)))))), (x2, (x3, ((((List.length x2) : Nat) : Int), ((0 : Int), ()))))))) fun (s4 : (Int × (TNw × (TNw × ((List (List Int)) × (Int × (Int × (Int × Unit)))))))) =>
        (Option.bind (c_impl_without (s4.2.2.2.1, (s4.1, ()))) fun (x5 : (List (List Int))) =>
        (Option.bind (c_impl_netOf (s4.2.1.2.1, ((wr (s4.2.1.2.2.1 * s4.2.2.2.2.1)), (x5, (true, ()))))) fun (x6 : (TNw × Bool)) =>
        (some (x6.1, x6.2)))))))))))
noncomputable def e_impl_StarMesh (a : TNw × Int × Unit) : Option (TNw × Bool) := r_impl_StarMesh e_impl_NetOk e_impl_table e_impl_WeightAt e_impl_without e_impl_netOf N0 a.1 a.2.1
def r_impl_DropNode (c_impl_NetOk : (TNw × Unit → Option Bool)) (c_impl_WiresAt : (TNw × Int × Unit → Option (List Int))) (c_impl_StarMesh : (TNw × Int × Unit → Option (TNw × Bool))) (_N : Nat) (a0 : TNw) (a1 : Int) : Option (TNw × Bool) :=
  (Option.bind (c_impl_NetOk (a0, ())) fun (x1 : Bool) =>
  (cond (!x1)
    (some (((0 : Int), ((0 : Int), ((0 : Int), ([] : List (Int × (Int × Int)))))), false))
    (cond (decide (a1 < a0.2.1))
      (some (((0 : Int), ((0 : Int), ((0 : Int), ([] : List (Int × (Int × Int)))))), false))
      (cond (decide (a1 ≥ a0.1))
        (some (((0 : Int), ((0 : Int), ((0 : Int), ([] : List (Int × (Int × Int)))))), false))
        (Option.bind (c_impl_WiresAt (a0, (a1, ()))) fun (x2 : (List Int)) =>
        (cond (decide ((((List.length x2) : Nat) : Int) < (1 : Int)))
          (some (((0 : Int), ((0 : Int), ((0 : Int), ([] : List (Int × (Int × Int)))))), false))
          (cond (decide ((((List.length x2) : Nat) : Int) > (2 : Int)))
            (some (((0 : Int), ((0 : Int), ((0 : Int), ([] : List (Int × (Int × Int)))))), false))
            (Option.bind (c_impl_StarMesh (a0, (a1, ()))) fun (x3 : (TNw × Bool)) =>
            (some (x3.1, x3.2))))))))))
noncomputable def e_impl_DropNode (a : TNw × Int × Unit) : Option (TNw × Bool) := r_impl_DropNode e_impl_NetOk e_impl_WiresAt e_impl_StarMesh N0 a.1 a.2.1
def r_impl_ReduceAll_L0 (_c_impl_NetOk : (TNw × Unit → Option Bool)) (_c_impl_copyNet : (TNw × Unit → Option TNw)) (c_impl_LeafOf : (TNw × Unit → Option Int)) (c_impl_SeriesOf : (TNw × Unit → Option Int)) (c_impl_DropNode : (TNw × Int × Unit → Option (TNw × Bool))) (_N : Nat) (s : (TNw × (TNw × (Int × (Bool × (Int × Unit)))))) (kc _ke : (TNw × (TNw × (Int × (Bool × (Int × Unit))))) → Option (TNw × (Int × Bool))) : Option (TNw × (Int × Bool)) :=
  (Option.bind (c_impl_LeafOf (s.1, ())) fun (x1 : Int) =>
  (cond (decide (x1 < (0 : Int)))
    (Option.bind (c_impl_SeriesOf (s.1, ())) fun (x2 : Int) =>
    (Option.bind (c_impl_DropNode (s.1, (x2, ()))) fun (x3 : (TNw × Bool)) =>
    (cond (decide (x2 < (0 : Int)))
      (some (s.1, (s.2.2.2.2.1, true)))
      (cond (!x3.2)
        (some (s.1, (s.2.2.2.2.1, true)))
        (kc (x3.1, (s.2.1, (s.2.2.1, (s.2.2.2.1, ((wr (s.2.2.2.2.1 + (1 : Int))), ()))))))))))
    (Option.bind (c_impl_DropNode (s.1, (x1, ()))) fun (x4 : (TNw × Bool)) =>
    (cond (decide (x1 < (0 : Int)))
      (some (s.1, (s.2.2.2.2.1, true)))
      (cond (!x4.2)
        (some (s.1, (s.2.2.2.2.1, true)))
        (kc (x4.1, (s.2.1, (s.2.2.1, (s.2.2.2.1, ((wr (s.2.2.2.2.1 + (1 : Int))), ())))))))))))
def r_impl_ReduceAll (c_impl_NetOk : (TNw × Unit → Option Bool)) (c_impl_copyNet : (TNw × Unit → Option TNw)) (c_impl_LeafOf : (TNw × Unit → Option Int)) (c_impl_SeriesOf : (TNw × Unit → Option Int)) (c_impl_DropNode : (TNw × Int × Unit → Option (TNw × Bool))) (N : Nat) (a0 : TNw) : Option (TNw × (Int × Bool)) :=
  (Option.bind (c_impl_NetOk (a0, ())) fun (x1 : Bool) =>
  (cond (!x1)
    (some (((0 : Int), ((0 : Int), ((0 : Int), ([] : List (Int × (Int × Int)))))), ((0 : Int), false)))
    (Option.bind (c_impl_copyNet (a0, ())) fun (x2 : TNw) =>
    (iterK (r_impl_ReduceAll_L0 c_impl_NetOk c_impl_copyNet c_impl_LeafOf c_impl_SeriesOf c_impl_DropNode N) N (x2, (((0 : Int), ((0 : Int), ((0 : Int), ([] : List (Int × (Int × Int)))))), ((0 : Int), (false, ((0 : Int), ()))))) fun (s3 : (TNw × (TNw × (Int × (Bool × (Int × Unit)))))) =>
    (some (s3.2.1, (s3.2.2.1, s3.2.2.2.1)))))))
noncomputable def e_impl_ReduceAll (a : TNw × Unit) : Option (TNw × (Int × Bool)) := r_impl_ReduceAll e_impl_NetOk e_impl_copyNet e_impl_LeafOf e_impl_SeriesOf e_impl_DropNode N0 a.1
def r_spec_l01In (_N : Nat) (a0 : Int) (a1 : Int) (a2 : Int) : Option Bool :=
  (cond (decide (a0 ≥ a1))
    (some (decide (a0 ≤ a2)))
    (some false))
noncomputable def e_spec_l01In (a : Int × Int × Int × Unit) : Option Bool := r_spec_l01In N0 a.1 a.2.1 a.2.2.1
def r_spec_l03Has_L0 (_N : Nat) (s : (Int × ((List Int) × (Int × (Int × Unit))))) (kc ke : (Int × ((List Int) × (Int × (Int × Unit)))) → Option Bool) : Option Bool :=
  (cond (decide (s.2.2.2.1 < s.2.2.1))
    (Option.bind (getI s.2.1 s.2.2.2.1) fun (x1 : Int) =>
    (cond (decide (x1 = s.1))
      (some true)
      (kc (s.1, (s.2.1, (s.2.2.1, ((wr (s.2.2.2.1 + (1 : Int))), ())))))))
    (ke (s.1, (s.2.1, (s.2.2.1, (s.2.2.2.1, ()))))))
def r_spec_l03Has (N : Nat) (a0 : (List Int)) (a1 : Int) : Option Bool :=
  (iterK (r_spec_l03Has_L0 N) N (a1, (a0, ((((List.length a0) : Nat) : Int), ((0 : Int), ())))) fun (_s1 : (Int × ((List Int) × (Int × (Int × Unit))))) =>
  (some false))
noncomputable def e_spec_l03Has (a : (List Int) × Int × Unit) : Option Bool := r_spec_l03Has N0 a.1 a.2.1
def r_spec_l03Reach_L2 (c_spec_l03Has : ((List Int) × Int × Unit → Option Bool)) (_N : Nat) (s : ((List (Int × (Int × Int))) × ((List Int) × (Int × ((List (Int × (Int × Int))) × (Int × (Int × Unit))))))) (kc ke : ((List (Int × (Int × Int))) × ((List Int) × (Int × ((List (Int × (Int × Int))) × (Int × (Int × Unit)))))) → Option (List Int)) : Option (List Int) :=
  (cond (decide (s.2.2.2.2.2.1 < s.2.2.2.2.1))
    (Option.bind (getI s.2.2.2.1 s.2.2.2.2.2.1) fun (x1 : (Int × (Int × Int))) =>
    (Option.bind (getI s.2.1 s.2.2.1) fun (x2 : Int) =>
    (cond (decide (x1.1 = x2))
      (Option.bind (c_spec_l03Has (s.2.1, (x1.2.1, ()))) fun (x3 : Bool) =>
      (cond (!x3)
        (cond (Nat.ble ((List.length s.2.1) + (List.length (x1.2.1 :: ([] : List Int)))) 17179869184)
          (Option.bind (getI (s.2.1 ++ (x1.2.1 :: ([] : List Int))) s.2.2.1) fun (x4 : Int) =>
          (cond (decide (x1.2.1 = x4))
            (Option.bind (c_spec_l03Has ((s.2.1 ++ (x1.2.1 :: ([] : List Int))), (x1.1, ()))) fun (x5 : Bool) =>
            (cond (!x5)
              (cond (Nat.ble ((List.length (s.2.1 ++ (x1.2.1 :: ([] : List Int)))) + (List.length (x1.1 :: ([] : List Int)))) 17179869184)
                (kc (s.1, (((s.2.1 ++ (x1.2.1 :: ([] : List Int))) ++ (x1.1 :: ([] : List Int))), (s.2.2.1, (s.2.2.2.1, (s.2.2.2.2.1, ((wr (s.2.2.2.2.2.1 + (1 : Int))), ())))))))
                none)
              (kc (s.1, ((s.2.1 ++ (x1.2.1 :: ([] : List Int))), (s.2.2.1, (s.2.2.2.1, (s.2.2.2.2.1, ((wr (s.2.2.2.2.2.1 + (1 : Int))), ())))))))))
            (kc (s.1, ((s.2.1 ++ (x1.2.1 :: ([] : List Int))), (s.2.2.1, (s.2.2.2.1, (s.2.2.2.2.1, ((wr (s.2.2.2.2.2.1 + (1 : Int))), ())))))))))
          none)
        (Option.bind (getI s.2.1 s.2.2.1) fun (x6 : Int) =>
        (cond (decide (x1.2.1 = x6))
          (Option.bind (c_spec_l03Has (s.2.1, (x1.1, ()))) fun (x7 : Bool) =>
          (cond (!x7)
            (cond (Nat.ble ((List.length s.2.1) + (List.length (x1.1 :: ([] : List Int)))) 17179869184)
              (kc (s.1, ((s.2.1 ++ (x1.1 :: ([] : List Int))), (s.2.2.1, (s.2.2.2.1, (s.2.2.2.2.1, ((wr (s.2.2.2.2.2.1 + (1 : Int))), ())))))))
              none)
            (kc (s.1, (s.2.1, (s.2.2.1, (s.2.2.2.1, (s.2.2.2.2.1, ((wr (s.2.2.2.2.2.1 + (1 : Int))), ())))))))))
          (kc (s.1, (s.2.1, (s.2.2.1, (s.2.2.2.1, (s.2.2.2.2.1, ((wr (s.2.2.2.2.2.1 + (1 : Int))), ())))))))))))
      (Option.bind (getI s.2.1 s.2.2.1) fun (x8 : Int) =>
      (cond (decide (x1.2.1 = x8))
        (Option.bind (c_spec_l03Has (s.2.1, (x1.1, ()))) fun (x9 : Bool) =>
        (cond (!x9)
          (cond (Nat.ble ((List.length s.2.1) + (List.length (x1.1 :: ([] : List Int)))) 17179869184)
            (kc (s.1, ((s.2.1 ++ (x1.1 :: ([] : List Int))), (s.2.2.1, (s.2.2.2.1, (s.2.2.2.2.1, ((wr (s.2.2.2.2.2.1 + (1 : Int))), ())))))))
            none)
          (kc (s.1, (s.2.1, (s.2.2.1, (s.2.2.2.1, (s.2.2.2.2.1, ((wr (s.2.2.2.2.2.1 + (1 : Int))), ())))))))))
        (kc (s.1, (s.2.1, (s.2.2.1, (s.2.2.2.1, (s.2.2.2.2.1, ((wr (s.2.2.2.2.2.1 + (1 : Int))), ()))))))))))))
    (ke (s.1, (s.2.1, (s.2.2.1, (s.2.2.2.1, (s.2.2.2.2.1, (s.2.2.2.2.2.1, ()))))))))
def r_spec_l03Reach_L0 (c_spec_l03Has : ((List Int) × Int × Unit → Option Bool)) (N : Nat) (s : ((List (Int × (Int × Int))) × ((List Int) × (Int × Unit)))) (kc ke : ((List (Int × (Int × Int))) × ((List Int) × (Int × Unit))) → Option (List Int)) : Option (List Int) :=
  (cond (decide (s.2.2.1 < (((List.length s.2.1) : Nat) : Int)))
    (iterK (r_spec_l03Reach_L2 c_spec_l03Has N) N (s.1, (s.2.1, (s.2.2.1, (s.1, ((((List.length s.1) : Nat) : Int), ((0 : Int), ())))))) fun (s1 : ((List (Int × (Int × Int))) × ((List Int) × (Int × ((List (Int × (Int × Int))) × (Int × (Int × Unit))))))) =>
    (kc (s1.1, (s1.2.1, ((wr (s1.2.2.1 + (1 : Int))), ())))))
    (ke (s.1, (s.2.1, (s.2.2.1, ())))))
def r_spec_l03Reach (c_spec_l03Has : ((List Int) × Int × Unit → Option Bool)) (N : Nat) (a0 : (List (Int × (Int × Int)))) (a1 : Int) : Option (List Int) :=
  (iterK (r_spec_l03Reach_L0 c_spec_l03Has N) N (a0, ((a1 :: ([] : List Int)), ((0 : Int), ()))) fun (s1 : ((List (Int × (Int × Int))) × ((List Int) × (Int × Unit)))) =>
  (some s1.2.1))
noncomputable def e_spec_l03Reach (a : (List (Int × Int × Int)) × Int × Unit) : Option (List Int) := r_spec_l03Reach e_spec_l03Has N0 a.1 a.2.1
def r_spec_NetOk_L0 (c_spec_l01In : (Int × Int × Int × Unit → Option Bool)) (_c_spec_l03Reach : ((List (Int × Int × Int)) × Int × Unit → Option (List Int))) (_N : Nat) (s : (TNw × ((List (Int × (Int × Int))) × (Int × (Int × Unit))))) (kc ke : (TNw × ((List (Int × (Int × Int))) × (Int × (Int × Unit)))) → Option Bool) : Option Bool :=
  (cond (decide (s.2.2.2.1 < s.2.2.1))
    (Option.bind (getI s.2.1 s.2.2.2.1) fun (x1 : (Int × (Int × Int))) =>
    (Option.bind (c_spec_l01In (x1.1, ((0 : Int), ((wr (s.1.1 - (1 : Int))), ())))) fun (x2 : Bool) =>
    (cond (!x2)
      (some false)
      (Option.bind (c_spec_l01In (x1.2.1, ((wr (x1.1 + (1 : Int))), ((wr (s.1.1 - (1 : Int))), ())))) fun (x3 : Bool) =>
      (cond (!x3)
        (some false)
        (Option.bind (c_spec_l01In (x1.2.2, ((1 : Int), ((200 : Int), ())))) fun (x4 : Bool) =>
        (cond (!x4)
          (some false)
          (cond (decide (s.2.2.2.1 > (0 : Int)))
            (Option.bind (getI s.1.2.2.2 (wr (s.2.2.2.1 - (1 : Int)))) fun (x5 : (Int × (Int × Int))) =>
            (cond (decide (x1.1 < x5.1))
              (some false)
              (Option.bind (getI s.1.2.2.2 (wr (s.2.2.2.1 - (1 : Int)))) fun (x6 : (Int × (Int × Int))) =>
              (cond (decide (x1.1 = x6.1))
                (Option.bind (getI s.1.2.2.2 (wr (s.2.2.2.1 - (1 : Int)))) fun (x7 : (Int × (Int × Int))) =>
                (cond (decide (x1.2.1 ≤ x7.2.1))
                  (some false)
                  (kc (s.1, (s.2.1, (s.2.2.1, ((wr (s.2.2.2.1 + (1 : Int))), ())))))))
                (kc (s.1, (s.2.1, (s.2.2.1, ((wr (s.2.2.2.1 + (1 : Int))), ())))))))))
            (kc (s.1, (s.2.1, (s.2.2.1, ((wr (s.2.2.2.1 + (1 : Int))), ())))))))))))))
    (ke (s.1, (s.2.1, (s.2.2.1, (s.2.2.2.1, ()))))))
def r_spec_NetOk (c_spec_l01In : (Int × Int × Int × Unit → Option Bool)) (c_spec_l03Reach : ((List (Int × Int × Int)) × Int × Unit → Option (List Int))) (N : Nat) (a0 : TNw) : Option Bool :=
  (Option.bind (c_spec_l01In (a0.1, ((1 : Int), ((5 : Int), ())))) fun (x1 : Bool) =>
  (cond (!x1)
    (some false)
    (Option.bind (c_spec_l01In (a0.2.1, ((1 : Int), (a0.1, ())))) fun (x2 : Bool) =>
    (cond (!x2)
      (some false)
      (Option.bind (c_spec_l01In (a0.2.2.1, ((1 : Int), ((1000 : Int), ())))) fun (x3 : Bool) =>
      (cond (!x3)
        (some false)
        (iterK (r_spec_NetOk_L0 c_spec_l01In c_spec_l03Reach N) N (a0, (a0.2.2.2, ((((List.length a0.2.2.2) : Nat) : Int), ((0 : Int), ())))) fun (s4 : (TNw × ((List (Int × (Int × Int))) × (Int × (Int × Unit))))) =>
        (Option.bind (c_spec_l03Reach (s4.1.2.2.2, ((0 : Int), ()))) fun (x5 : (List Int)) =>
        (some (decide ((((List.length x5) : Nat) : Int) = s4.1.1)))))))))))
noncomputable def e_spec_NetOk (a : TNw × Unit) : Option Bool := r_spec_NetOk e_spec_l01In e_spec_l03Reach N0 a.1
def r_spec_l03Find_L0 (_N : Nat) (s : (Int × (Int × ((List (Int × (Int × Int))) × (Int × (Int × Unit)))))) (kc ke : (Int × (Int × ((List (Int × (Int × Int))) × (Int × (Int × Unit))))) → Option Int) : Option Int :=
  (cond (decide (s.2.2.2.2.1 < s.2.2.2.1))
    (Option.bind (getI s.2.2.1 s.2.2.2.2.1) fun (x1 : (Int × (Int × Int))) =>
    (cond (decide (x1.1 = (@ite @Int (s.2.1 < s.1) (@Int.decLt s.2.1 s.1) s.2.1 s.1)))
      (cond (decide (x1.2.1 = (@ite @Int (s.2.1 > s.1) (@Int.decLt s.1 s.2.1) s.2.1 s.1)))
        (some s.2.2.2.2.1)
        (kc (s.1, (s.2.1, (s.2.2.1, (s.2.2.2.1, ((wr (s.2.2.2.2.1 + (1 : Int))), ())))))))
      (kc (s.1, (s.2.1, (s.2.2.1, (s.2.2.2.1, ((wr (s.2.2.2.2.1 + (1 : Int))), ()))))))))
    (ke (s.1, (s.2.1, (s.2.2.1, (s.2.2.2.1, (s.2.2.2.2.1, ())))))))
def r_spec_l03Find (N : Nat) (a0 : (List (Int × (Int × Int)))) (a1 : Int) (a2 : Int) : Option Int :=
  (iterK (r_spec_l03Find_L0 N) N (a1, (a2, (a0, ((((List.length a0) : Nat) : Int), ((0 : Int), ()))))) fun (_s1 : (Int × (Int × ((List (Int × (Int × Int))) × (Int × (Int × Unit)))))) =>
  (some (-(1 : Int))))
noncomputable def e_spec_l03Find (a : (List (Int × Int × Int)) × Int × Int × Unit) : Option Int := r_spec_l03Find N0 a.1 a.2.1 a.2.2.1
def r_spec_WeightBetween (c_spec_l03Find : ((List (Int × Int × Int)) × Int × Int × Unit → Option Int)) (_N : Nat) (a0 : TNw) (a1 : Int) (a2 : Int) : Option Int :=
  (Option.bind (c_spec_l03Find (a0.2.2.2, (a1, (a2, ())))) fun (x1 : Int) =>
  (cond (decide (x1 < (0 : Int)))
    (some (0 : Int))
    (cond (decide (a1 = a2))
      (some (0 : Int))
      (Option.bind (getI a0.2.2.2 x1) fun (x2 : (Int × (Int × Int))) =>
      (some x2.2.2)))))
noncomputable def e_spec_WeightBetween (a : TNw × Int × Int × Unit) : Option Int := r_spec_WeightBetween e_spec_l03Find N0 a.1 a.2.1 a.2.2.1
def r_spec_l07Near_L0 (c_spec_WeightBetween : (TNw × Int × Int × Unit → Option Int)) (_N : Nat) (s : (Int × (TNw × ((List Int) × (Int × Unit))))) (kc ke : (Int × (TNw × ((List Int) × (Int × Unit)))) → Option (List Int)) : Option (List Int) :=
  (cond (decide (s.2.2.2.1 < s.2.1.1))
    (Option.bind (c_spec_WeightBetween (s.2.1, (s.1, (s.2.2.2.1, ())))) fun (x1 : Int) =>
    (cond (decide (x1 > (0 : Int)))
      (cond (Nat.ble ((List.length s.2.2.1) + (List.length (s.2.2.2.1 :: ([] : List Int)))) 17179869184)
        (kc (s.1, (s.2.1, ((s.2.2.1 ++ (s.2.2.2.1 :: ([] : List Int))), ((wr (s.2.2.2.1 + (1 : Int))), ())))))
        none)
      (kc (s.1, (s.2.1, (s.2.2.1, ((wr (s.2.2.2.1 + (1 : Int))), ())))))))
    (ke (s.1, (s.2.1, (s.2.2.1, (s.2.2.2.1, ()))))))
def r_spec_l07Near (c_spec_WeightBetween : (TNw × Int × Int × Unit → Option Int)) (N : Nat) (a0 : TNw) (a1 : Int) : Option (List Int) :=
  (iterK (r_spec_l07Near_L0 c_spec_WeightBetween N) N (a1, (a0, (([] : List Int), ((0 : Int), ())))) fun (s1 : (Int × (TNw × ((List Int) × (Int × Unit))))) =>
  (some s1.2.2.1))
noncomputable def e_spec_l07Near (a : TNw × Int × Unit) : Option (List Int) := r_spec_l07Near e_spec_WeightBetween N0 a.1 a.2.1
def r_spec_WeightAt_L0 (_N : Nat) (s : (Int × (Int × ((List (Int × (Int × Int))) × (Int × (Int × Unit)))))) (kc ke : (Int × (Int × ((List (Int × (Int × Int))) × (Int × (Int × Unit))))) → Option Int) : Option Int :=
  (cond (decide (s.2.2.2.2.1 < s.2.2.2.1))
    (Option.bind (getI s.2.2.1 s.2.2.2.2.1) fun (x1 : (Int × (Int × Int))) =>
    (cond (decide (x1.1 = s.1))
      (kc (s.1, ((wr (s.2.1 + x1.2.2)), (s.2.2.1, (s.2.2.2.1, ((wr (s.2.2.2.2.1 + (1 : Int))), ()))))))
      (cond (decide (x1.2.1 = s.1))
        (kc (s.1, ((wr (s.2.1 + x1.2.2)), (s.2.2.1, (s.2.2.2.1, ((wr (s.2.2.2.2.1 + (1 : Int))), ()))))))
        (kc (s.1, (s.2.1, (s.2.2.1, (s.2.2.2.1, ((wr (s.2.2.2.2.1 + (1 : Int))), ())))))))))
    (ke (s.1, (s.2.1, (s.2.2.1, (s.2.2.2.1, (s.2.2.2.2.1, ())))))))
def r_spec_WeightAt (N : Nat) (a0 : TNw) (a1 : Int) : Option Int :=
  (iterK (r_spec_WeightAt_L0 N) N (a1, ((0 : Int), (a0.2.2.2, ((((List.length a0.2.2.2) : Nat) : Int), ((0 : Int), ()))))) fun (s1 : (Int × (Int × ((List (Int × (Int × Int))) × (Int × (Int × Unit)))))) =>
  (some s1.2.1))
noncomputable def e_spec_WeightAt (a : TNw × Int × Unit) : Option Int := r_spec_WeightAt N0 a.1 a.2.1
def r_spec_l03Drop_L0 (_N : Nat) (s : ((List (Int × (Int × Int))) × ((List (Int × (Int × Int))) × (Int × (Int × Unit))))) (kc ke : ((List (Int × (Int × Int))) × ((List (Int × (Int × Int))) × (Int × (Int × Unit)))) → Option (List (Int × (Int × Int)))) : Option (List (Int × (Int × Int))) :=
  (cond (decide (s.2.2.2.1 < s.2.2.1))
    (Option.bind (getI s.2.1 s.2.2.2.1) fun (x1 : (Int × (Int × Int))) =>
    (cond (!(decide (x1.2.2 = (0 : Int))))
      (cond (Nat.ble ((List.length s.1) + (List.length (x1 :: ([] : List (Int × (Int × Int)))))) 17179869184)
        (kc ((s.1 ++ (x1 :: ([] : List (Int × (Int × Int))))), (s.2.1, (s.2.2.1, ((wr (s.2.2.2.1 + (1 : Int))), ())))))
        none)
      (kc (s.1, (s.2.1, (s.2.2.1, ((wr (s.2.2.2.1 + (1 : Int))), ())))))))
    (ke (s.1, (s.2.1, (s.2.2.1, (s.2.2.2.1, ()))))))
def r_spec_l03Drop (N : Nat) (a0 : (List (Int × (Int × Int)))) : Option (List (Int × (Int × Int))) :=
  (iterK (r_spec_l03Drop_L0 N) N (([] : List (Int × (Int × Int))), (a0, ((((List.length a0) : Nat) : Int), ((0 : Int), ())))) fun (s1 : ((List (Int × (Int × Int))) × ((List (Int × (Int × Int))) × (Int × (Int × Unit))))) =>
  (some s1.1))
noncomputable def e_spec_l03Drop (a : (List (Int × Int × Int)) × Unit) : Option (List (Int × Int × Int)) := r_spec_l03Drop N0 a.1
def r_spec_l02Turn (_N : Nat) (a0 : Int) (a1 : Int) : Option (Int × Int) :=
  (cond (decide (a1 = (0 : Int)))
    none
    (some (a1, (Int.tmod a0 a1))))
noncomputable def e_spec_l02Turn (a : Int × Int × Unit) : Option (Int × Int) := r_spec_l02Turn N0 a.1 a.2.1
def r_spec_GcdOf_L0 (c_spec_l02Turn : (Int × Int × Unit → Option (Int × Int))) (_N : Nat) (s : (Int × (Int × Unit))) (kc ke : (Int × (Int × Unit)) → Option Int) : Option Int :=
  (cond (!(decide (s.2.1 = (0 : Int))))
    (Option.bind (c_spec_l02Turn (s.1, (s.2.1, ()))) fun (x1 : (Int × Int)) =>
    (kc (x1.1, (x1.2, ()))))
    (ke (s.1, (s.2.1, ()))))
def r_spec_GcdOf (c_spec_l02Turn : (Int × Int × Unit → Option (Int × Int))) (N : Nat) (a0 : Int) (a1 : Int) : Option Int :=
  (cond (decide (a0 < (-(9223372036854775807 : Int))))
    (some (0 : Int))
    (cond (decide (a1 < (-(9223372036854775807 : Int))))
      (some (0 : Int))
      (iterK (r_spec_GcdOf_L0 c_spec_l02Turn N) N ((@ite @Int ((wr ((0 : Int) - a0)) > a0) (@Int.decLt a0 (wr ((0 : Int) - a0))) (wr ((0 : Int) - a0)) a0), ((@ite @Int ((wr ((0 : Int) - a1)) > a1) (@Int.decLt a1 (wr ((0 : Int) - a1))) (wr ((0 : Int) - a1)) a1), ())) fun (s1 : (Int × (Int × Unit))) =>
      (some s1.1))))
noncomputable def e_spec_GcdOf (a : Int × Int × Unit) : Option Int := r_spec_GcdOf e_spec_l02Turn N0 a.1 a.2.1
def r_spec_l03Canon_L2 (_c_spec_GcdOf : (Int × Int × Unit → Option Int)) (_N : Nat) (s : (TNw × (Int × (TNw × ((List (Int × (Int × Int))) × (Int × (Int × Unit))))))) (kc ke : (TNw × (Int × (TNw × ((List (Int × (Int × Int))) × (Int × (Int × Unit)))))) → Option TNw) : Option TNw :=
  (cond (decide (s.2.2.2.2.2.1 < s.2.2.2.2.1))
    (Option.bind (getI s.2.2.2.1 s.2.2.2.2.2.1) fun (x1 : (Int × (Int × Int))) =>
    (cond (decide (s.2.1 = (0 : Int)))
      none
      (cond (Nat.ble ((List.length s.2.2.1.2.2.2) + (List.length ((x1.1, (x1.2.1, (wr (Int.tdiv x1.2.2 s.2.1)))) :: ([] : List (Int × (Int × Int)))))) 17179869184)
        (kc (s.1, (s.2.1, ((s.2.2.1.1, (s.2.2.1.2.1, (s.2.2.1.2.2.1, (s.2.2.1.2.2.2 ++ ((x1.1, (x1.2.1, (wr (Int.tdiv x1.2.2 s.2.1)))) :: ([] : List (Int × (Int × Int)))))))), (s.2.2.2.1, (s.2.2.2.2.1, ((wr (s.2.2.2.2.2.1 + (1 : Int))), ())))))))
        none)))
    (ke (s.1, (s.2.1, (s.2.2.1, (s.2.2.2.1, (s.2.2.2.2.1, (s.2.2.2.2.2.1, ()))))))))
def r_spec_l03Canon_L0 (c_spec_GcdOf : (Int × Int × Unit → Option Int)) (_N : Nat) (s : (TNw × (TNw × (Int × ((List (Int × (Int × Int))) × (Int × (Int × Unit))))))) (kc ke : (TNw × (TNw × (Int × ((List (Int × (Int × Int))) × (Int × (Int × Unit)))))) → Option TNw) : Option TNw :=
  (cond (decide (s.2.2.2.2.2.1 < s.2.2.2.2.1))
    (Option.bind (getI s.2.2.2.1 s.2.2.2.2.2.1) fun (x1 : (Int × (Int × Int))) =>
    (Option.bind (c_spec_GcdOf (s.2.2.1, (x1.2.2, ()))) fun (x2 : Int) =>
    (kc (s.1, (s.2.1, (x2, (s.2.2.2.1, (s.2.2.2.2.1, ((wr (s.2.2.2.2.2.1 + (1 : Int))), ())))))))))
    (ke (s.1, (s.2.1, (s.2.2.1, (s.2.2.2.1, (s.2.2.2.2.1, (s.2.2.2.2.2.1, ()))))))))
def r_spec_l03Canon (c_spec_GcdOf : (Int × Int × Unit → Option Int)) (N : Nat) (a0 : TNw) : Option TNw :=
  (iterK (r_spec_l03Canon_L0 c_spec_GcdOf N) N (a0, (((0 : Int), ((0 : Int), ((0 : Int), ([] : List (Int × (Int × Int)))))), (a0.2.2.1, (a0.2.2.2, ((((List.length a0.2.2.2) : Nat) : Int), ((0 : Int), ())))))) fun (s1 : (TNw × (TNw × (Int × ((List (Int × (Int × Int))) × (Int × (Int × Unit))))))) =>
  (cond (decide (s1.2.2.1 = (0 : Int)))
    none
    (iterK (r_spec_l03Canon_L2 c_spec_GcdOf N) N (s1.2.1, (s1.2.2.1, ((s1.1.1, (s1.1.2.1, ((wr (Int.tdiv s1.1.2.2.1 s1.2.2.1)), ([] : List (Int × (Int × Int)))))), (s1.1.2.2.2, ((((List.length s1.1.2.2.2) : Nat) : Int), ((0 : Int), ())))))) fun (s2 : (TNw × (Int × (TNw × ((List (Int × (Int × Int))) × (Int × (Int × Unit))))))) =>
    (some s2.2.2.1))))
noncomputable def e_spec_l03Canon (a : TNw × Unit) : Option TNw := r_spec_l03Canon e_spec_GcdOf N0 a.1
def r_spec_l06Reduced (c_spec_l03Drop : ((List (Int × Int × Int)) × Unit → Option (List (Int × Int × Int)))) (c_spec_l03Canon : (TNw × Unit → Option TNw)) (c_spec_NetOk : (TNw × Unit → Option Bool)) (_N : Nat) (a0 : TNw) : Option (TNw × Bool) :=
  (Option.bind (c_spec_l03Drop (a0.2.2.2, ())) fun (x1 : (List (Int × (Int × Int)))) =>
  (Option.bind (c_spec_l03Canon ((a0.1, (a0.2.1, (a0.2.2.1, x1))), ())) fun (x2 : TNw) =>
  (Option.bind (c_spec_NetOk (x2, ())) fun (x3 : Bool) =>
  (cond (!x3)
    (some (((0 : Int), ((0 : Int), ((0 : Int), ([] : List (Int × (Int × Int)))))), false))
    (some (x2, true))))))
noncomputable def e_spec_l06Reduced (a : TNw × Unit) : Option (TNw × Bool) := r_spec_l06Reduced e_spec_l03Drop e_spec_l03Canon e_spec_NetOk N0 a.1
def r_spec_l05Index (_N : Nat) (a0 : Int) (a1 : Int) : Option Int :=
  (cond (decide (a0 > a1))
    (some (wr (a0 - (1 : Int))))
    (some a0))
noncomputable def e_spec_l05Index (a : Int × Int × Unit) : Option Int := r_spec_l05Index N0 a.1 a.2.1
def r_spec_l07Mesh_L4 (_c_spec_l07Near : (TNw × Int × Unit → Option (List Int))) (_c_spec_WeightAt : (TNw × Int × Unit → Option Int)) (_c_spec_l06Reduced : (TNw × Unit → Option (TNw × Bool))) (c_spec_l05Index : (Int × Int × Unit → Option Int)) (c_spec_l03Put : ((List (Int × Int × Int)) × Int × Int × Int × Bool × Unit → Option (List (Int × Int × Int)))) (c_spec_WeightBetween : (TNw × Int × Int × Unit → Option Int)) (_N : Nat) (s : (Int × (TNw × (TNw × ((List Int) × (TNw × (Int × ((List Int) × (Int × (Int × ((List Int) × (Int × (Int × Unit))))))))))))) (kc ke : (Int × (TNw × (TNw × ((List Int) × (TNw × (Int × ((List Int) × (Int × (Int × ((List Int) × (Int × (Int × Unit)))))))))))) → Option (TNw × Bool)) : Option (TNw × Bool) :=
  (cond (decide (s.2.2.2.2.2.2.2.2.2.2.2.1 < s.2.2.2.2.2.2.2.2.2.2.1))
    (Option.bind (getI s.2.2.2.2.2.2.2.2.2.1 s.2.2.2.2.2.2.2.2.2.2.2.1) fun (x1 : Int) =>
    (Option.bind (c_spec_l05Index (s.2.2.2.2.2.1, (s.1, ()))) fun (x2 : Int) =>
    (Option.bind (c_spec_l05Index (x1, (s.1, ()))) fun (x3 : Int) =>
    (Option.bind (c_spec_WeightBetween (s.2.1, (s.1, (s.2.2.2.2.2.1, ())))) fun (x4 : Int) =>
    (Option.bind (c_spec_WeightBetween (s.2.1, (s.1, (x1, ())))) fun (x5 : Int) =>
    (Option.bind (c_spec_l03Put (s.2.2.2.2.1.2.2.2, (x2, (x3, ((wr (x4 * x5)), (true, ())))))) fun (x6 : (List (Int × (Int × Int)))) =>
    (kc (s.1, (s.2.1, (s.2.2.1, (s.2.2.2.1, ((s.2.2.2.2.1.1, (s.2.2.2.2.1.2.1, (s.2.2.2.2.1.2.2.1, x6))), (s.2.2.2.2.2.1, (s.2.2.2.2.2.2.1, (s.2.2.2.2.2.2.2.1, (s.2.2.2.2.2.2.2.2.1, (s.2.2.2.2.2.2.2.2.2.1, (s.2.2.2.2.2.2.2.2.2.2.1, ((wr (s.2.2.2.2.2.2.2.2.2.2.2.1 + (1 : Int))), ())))))))))))))))))))
    (ke (s.1, (s.2.1, (s.2.2.1, (s.2.2.2.1, (s.2.2.2.2.1, (s.2.2.2.2.2.1, (s.2.2.2.2.2.2.1, (s.2.2.2.2.2.2.2.1, (s.2.2.2.2.2.2.2.2.1, (s.2.2.2.2.2.2.2.2.2.1, (s.2.2.2.2.2.2.2.2.2.2.1, (s.2.2.2.2.2.2.2.2.2.2.2.1, ()))))))))))))))
def r_spec_l07Mesh_L2 (c_spec_l07Near : (TNw × Int × Unit → Option (List Int))) (c_spec_WeightAt : (TNw × Int × Unit → Option Int)) (c_spec_l06Reduced : (TNw × Unit → Option (TNw × Bool))) (c_spec_l05Index : (Int × Int × Unit → Option Int)) (c_spec_l03Put : ((List (Int × Int × Int)) × Int × Int × Int × Bool × Unit → Option (List (Int × Int × Int)))) (c_spec_WeightBetween : (TNw × Int × Int × Unit → Option Int)) (N : Nat) (s : (Int × (TNw × (TNw × ((List Int) × (TNw × ((List Int) × (Int × (Int × Unit))))))))) (kc ke : (Int × (TNw × (TNw × ((List Int) × (TNw × ((List Int) × (Int × (Int × Unit)))))))) → Option (TNw × Bool)) : Option (TNw × Bool) :=
  (cond (decide (s.2.2.2.2.2.2.2.1 < s.2.2.2.2.2.2.1))
    (Option.bind (getI s.2.2.2.2.2.1 s.2.2.2.2.2.2.2.1) fun (x1 : Int) =>
    (cond (decide ((0 : Int) ≤ (wr (s.2.2.2.2.2.2.2.1 + (1 : Int)))))
      (cond (decide ((wr (s.2.2.2.2.2.2.2.1 + (1 : Int))) ≤ (((List.length s.2.2.2.1) : Nat) : Int)))
        (cond (decide ((((List.length s.2.2.2.1) : Nat) : Int) ≤ (((List.length s.2.2.2.1) : Nat) : Int)))
          (iterK (r_spec_l07Mesh_L4 c_spec_l07Near c_spec_WeightAt c_spec_l06Reduced c_spec_l05Index c_spec_l03Put c_spec_WeightBetween N) N (s.1, (s.2.1, (s.2.2.1, (s.2.2.2.1, (s.2.2.2.2.1, (x1, (s.2.2.2.2.2.1, (s.2.2.2.2.2.2.1, (s.2.2.2.2.2.2.2.1, ((List.take ((Int.toNat (((List.length s.2.2.2.1) : Nat) : Int)) - (Int.toNat (wr (s.2.2.2.2.2.2.2.1 + (1 : Int))))) (List.drop (Int.toNat (wr (s.2.2.2.2.2.2.2.1 + (1 : Int)))) s.2.2.2.1)), ((((List.length (List.take ((Int.toNat (((List.length s.2.2.2.1) : Nat) : Int)) - (Int.toNat (wr (s.2.2.2.2.2.2.2.1 + (1 : Int))))) (List.drop (Int.toNat (wr (s.2.2.2.2.2.2.2.1 + (1 : Int)))) s.2.2.2.1))) : Nat) : Int), ((0 : Int), ())))))))))))) fun (s2 : (Int × (TNw × (TNw × ((List Int) × (TNw × (Int × ((List Int) × (Int × (Int × ((List Int) × (Int × (Int × Unit))))))))))))) =>
          (kc (s2.1, (s2.2.1, (s2.2.2.1, (s2.2.2.2.1, (s2.2.2.2.2.1, (s2.2.2.2.2.2.2.1, (s2.2.2.2.2.2.2.2.1, ((wr (s2.2.2.2.2.2.2.2.2.1 + (1 : Int))), ()))))))))))
          none)
        none)
      none))
    (ke (s.1, (s.2.1, (s.2.2.1, (s.2.2.2.1, (s.2.2.2.2.1, (s.2.2.2.2.2.1, (s.2.2.2.2.2.2.1, (s.2.2.2.2.2.2.2.1, ()))))))))))
def r_spec_l07Mesh_L0 (_c_spec_l07Near : (TNw × Int × Unit → Option (List Int))) (_c_spec_WeightAt : (TNw × Int × Unit → Option Int)) (_c_spec_l06Reduced : (TNw × Unit → Option (TNw × Bool))) (c_spec_l05Index : (Int × Int × Unit → Option Int)) (c_spec_l03Put : ((List (Int × Int × Int)) × Int × Int × Int × Bool × Unit → Option (List (Int × Int × Int)))) (_c_spec_WeightBetween : (TNw × Int × Int × Unit → Option Int)) (_N : Nat) (s : (Int × (TNw × (TNw × ((List Int) × (Int × (TNw × ((List (Int × (Int × Int))) × (Int × (Int × Unit)))))))))) (kc ke : (Int × (TNw × (TNw × ((List Int) × (Int × (TNw × ((List (Int × (Int × Int))) × (Int × (Int × Unit))))))))) → Option (TNw × Bool)) : Option (TNw × Bool) :=
  (cond (decide (s.2.2.2.2.2.2.2.2.1 < s.2.2.2.2.2.2.2.1))
    (Option.bind (getI s.2.2.2.2.2.2.1 s.2.2.2.2.2.2.2.2.1) fun (x1 : (Int × (Int × Int))) =>
    (cond (!(decide (x1.1 = s.1)))
      (cond (!(decide (x1.2.1 = s.1)))
        (Option.bind (c_spec_l05Index (x1.1, (s.1, ()))) fun (x2 : Int) =>
        (Option.bind (c_spec_l05Index (x1.2.1, (s.1, ()))) fun (x3 : Int) =>
        (Option.bind (c_spec_l03Put (s.2.2.2.2.2.1.2.2.2, (x2, (x3, ((wr (x1.2.2 * s.2.2.2.2.1)), (true, ())))))) fun (x4 : (List (Int × (Int × Int)))) =>
        (kc (s.1, (s.2.1, (s.2.2.1, (s.2.2.2.1, (s.2.2.2.2.1, ((s.2.2.2.2.2.1.1, (s.2.2.2.2.2.1.2.1, (s.2.2.2.2.2.1.2.2.1, x4))), (s.2.2.2.2.2.2.1, (s.2.2.2.2.2.2.2.1, ((wr (s.2.2.2.2.2.2.2.2.1 + (1 : Int))), ())))))))))))))
        (kc (s.1, (s.2.1, (s.2.2.1, (s.2.2.2.1, (s.2.2.2.2.1, (s.2.2.2.2.2.1, (s.2.2.2.2.2.2.1, (s.2.2.2.2.2.2.2.1, ((wr (s.2.2.2.2.2.2.2.2.1 + (1 : Int))), ())))))))))))
      (kc (s.1, (s.2.1, (s.2.2.1, (s.2.2.2.1, (s.2.2.2.2.1, (s.2.2.2.2.2.1, (s.2.2.2.2.2.2.1, (s.2.2.2.2.2.2.2.1, ((wr (s.2.2.2.2.2.2.2.2.1 + (1 : Int))), ()))))))))))))
    (ke (s.1, (s.2.1, (s.2.2.1, (s.2.2.2.1, (s.2.2.2.2.1, (s.2.2.2.2.2.1, (s.2.2.2.2.2.2.1, (s.2.2.2.2.2.2.2.1, (s.2.2.2.2.2.2.2.2.1, ())))))))))))
def r_spec_l07Mesh (c_spec_l07Near : (TNw × Int × Unit → Option (List Int))) (c_spec_WeightAt : (TNw × Int × Unit → Option Int)) (c_spec_l06Reduced : (TNw × Unit → Option (TNw × Bool))) (c_spec_l05Index : (Int × Int × Unit → Option Int)) (c_spec_l03Put : ((List (Int × Int × Int)) × Int × Int × Int × Bool × Unit → Option (List (Int × Int × Int)))) (c_spec_WeightBetween : (TNw × Int × Int × Unit → Option Int)) (N : Nat) (a0 : TNw) (a1 : Int) : Option (TNw × Bool) :=
  (Option.bind (c_spec_l07Near (a0, (a1, ()))) fun (x1 : (List Int)) =>
  (Option.bind (c_spec_WeightAt (a0, (a1, ()))) fun (x2 : Int) =>
  (iterK (r_spec_l07Mesh_L0 c_spec_l07Near c_spec_WeightAt c_spec_l06Reduced c_spec_l05Index c_spec_l03Put c_spec_WeightBetween N) N (a1, (a0, (((0 : Int), ((0 : Int), ((0 : Int), ([] : List (Int × (Int × Int)))))), (x1, (x2, (((wr (a0.1 - (1 : Int))), (a0.2.1, ((wr (a0.2.2.1 * x2)), ([] : List (Int × (Int × Int)))))), (a0.2.2.2, ((((List.length a0.2.2.2) : Nat) : Int), ((0 : Int), ()))))))))) fun (s3 : (Int × (TNw × (TNw × ((List Int) × (Int × (TNw × ((List (Int × (Int × Int))) × (Int × (Int × Unit)))))))))) =>
  (iterK (r_spec_l07Mesh_L2 c_spec_l07Near c_spec_WeightAt c_spec_l06Reduced c_spec_l05Index c_spec_l03Put c_spec_WeightBetween N) N (s3.1, (s3.2.1, (s3.2.2.1, (s3.2.2.2.1, (s3.2.2.2.2.2.1, (s3.2.2.2.1, ((((List.length s3.2.2.2.1) : Nat) : Int), ((0 : Int), ())))))))) fun (s4 : (Int × (TNw × (TNw × ((List Int) × (TNw × ((List Int) × (Int × (Int × Unit))))))))) =>
  (Option.bind (c_spec_l06Reduced (s4.2.2.2.2.1, ())) fun (x5 : (TNw × Bool)) =>
  (some (x5.1, x5.2)))))))
noncomputable def e_spec_l07Mesh (a : TNw × Int × Unit) : Option (TNw × Bool) := r_spec_l07Mesh e_spec_l07Near e_spec_WeightAt e_spec_l06Reduced e_spec_l05Index e_spec_l03Put e_spec_WeightBetween N0 a.1 a.2.1
def r_spec_StarMesh (c_spec_NetOk : (TNw × Unit → Option Bool)) (c_spec_l01In : (Int × Int × Int × Unit → Option Bool)) (c_spec_l07Mesh : (TNw × Int × Unit → Option (TNw × Bool))) (_N : Nat) (a0 : TNw) (a1 : Int) : Option (TNw × Bool) :=
  (Option.bind (c_spec_NetOk (a0, ())) fun (x1 : Bool) =>
  (cond (!x1)
    (some (((0 : Int), ((0 : Int), ((0 : Int), ([] : List (Int × (Int × Int)))))), false))
    (Option.bind (c_spec_l01In (a1, (a0.2.1, ((wr (a0.1 - (1 : Int))), ())))) fun (x2 : Bool) =>
    (cond (!x2)
      (some (((0 : Int), ((0 : Int), ((0 : Int), ([] : List (Int × (Int × Int)))))), false))
      (Option.bind (c_spec_l07Mesh (a0, (a1, ()))) fun (x3 : (TNw × Bool)) =>
      (some (x3.1, x3.2)))))))
noncomputable def e_spec_StarMesh (a : TNw × Int × Unit) : Option (TNw × Bool) := r_spec_StarMesh e_spec_NetOk e_spec_l01In e_spec_l07Mesh N0 a.1 a.2.1
def r_spec_l18New_L0 (_c_spec_l01New : (Value × Unit → Option (Option (Value × Int × Int)))) (k_spec_l01Byte : (Option (Value × Int × Int) → (Unit) → Option (Option (Value × Int × Int) × Int))) (_N : Nat) (s : (Int × ((Option (Value × (Int × Int))) × (Int × Unit)))) (kc ke : (Int × ((Option (Value × (Int × Int))) × (Int × Unit))) → Option (Option (Value × (Int × Int)))) : Option (Option (Value × (Int × Int))) :=
  (cond (decide (s.2.2.1 < s.1))
    (Option.bind (k_spec_l01Byte s.2.1 ()) fun (x1 : ((Option (Value × (Int × Int))) × Int)) =>
    (kc (s.1, (x1.1, ((wr (s.2.2.1 + (1 : Int))), ())))))
    (ke (s.1, (s.2.1, (s.2.2.1, ())))))
def r_spec_l18New (c_spec_l01New : (Value × Unit → Option (Option (Value × Int × Int)))) (k_spec_l01Byte : (Option (Value × Int × Int) → (Unit) → Option (Option (Value × Int × Int) × Int))) (N : Nat) (a0 : Value) (a1 : Int) : Option (Option (Value × (Int × Int))) :=
  (Option.bind (c_spec_l01New (a0, ())) fun (x1 : (Option (Value × (Int × Int)))) =>
  (iterK (r_spec_l18New_L0 c_spec_l01New k_spec_l01Byte N) N (a1, (x1, ((0 : Int), ()))) fun (s2 : (Int × ((Option (Value × (Int × Int))) × (Int × Unit)))) =>
  (some s2.2.1)))
noncomputable def e_spec_l18New (A : Option (Nat × Obj)) (a : Value × Int × Unit) : Option (Option (Value × Int × Int)) := r_spec_l18New (e_spec_l01New A) (e_spec_l01Byte A) N0 a.1 a.2.1
def r_spec_MakeVolts_L0 (_c_spec_l18New : (Value × Int × Unit → Option (Option (Value × Int × Int)))) (k_spec_l01Below : (Option (Value × Int × Int) → (Int × Unit) → Option (Option (Value × Int × Int) × Int))) (_N : Nat) (s : (TNw × ((Option (Value × (Int × Int))) × ((List Int) × (Int × Unit))))) (kc ke : (TNw × ((Option (Value × (Int × Int))) × ((List Int) × (Int × Unit)))) → Option (List Int)) : Option (List Int) :=
  (cond (decide (s.2.2.2.1 < s.1.2.1))
    (Option.bind (k_spec_l01Below s.2.1 ((11 : Int), ())) fun (x1 : ((Option (Value × (Int × Int))) × Int)) =>
    (cond (Nat.ble ((List.length s.2.2.1) + (List.length ((wr (x1.2 - (5 : Int))) :: ([] : List Int)))) 17179869184)
      (kc (s.1, (x1.1, ((s.2.2.1 ++ ((wr (x1.2 - (5 : Int))) :: ([] : List Int))), ((wr (s.2.2.2.1 + (1 : Int))), ())))))
      none))
    (ke (s.1, (s.2.1, (s.2.2.1, (s.2.2.2.1, ()))))))
def r_spec_MakeVolts (c_spec_l18New : (Value × Int × Unit → Option (Option (Value × Int × Int)))) (k_spec_l01Below : (Option (Value × Int × Int) → (Int × Unit) → Option (Option (Value × Int × Int) × Int))) (N : Nat) (a0 : Value) (a1 : Int) (a2 : TNw) : Option (List Int) :=
  (Option.bind (c_spec_l18New (a0, (a1, ()))) fun (x1 : (Option (Value × (Int × Int)))) =>
  (iterK (r_spec_MakeVolts_L0 c_spec_l18New k_spec_l01Below N) N (a2, (x1, (([] : List Int), ((0 : Int), ())))) fun (s2 : (TNw × ((Option (Value × (Int × Int))) × ((List Int) × (Int × Unit))))) =>
  (some s2.2.2.1)))
noncomputable def e_spec_MakeVolts (A : Option (Nat × Obj)) (a : Value × Int × TNw × Unit) : Option (List Int) := r_spec_MakeVolts (e_spec_l18New A) (e_spec_l01Below A) N0 a.1 a.2.1 a.2.2.1
def r_impl_LaplacianOf_L2 (_c_impl_NetOk : (TNw × Unit → Option Bool)) (_c_impl_table : (TNw × Unit → Option (List (List Int)))) (_c_impl_WeightAt : (TNw × Int × Unit → Option Int)) (_N : Nat) (s : (TNw × ((List (List Int)) × (Int × (Int × (Int × (Int × (Int × Unit)))))))) (kc ke : (TNw × ((List (List Int)) × (Int × (Int × (Int × (Int × (Int × Unit))))))) → Option (List (List Int))) : Option (List (List Int)) :=
  (cond (decide (s.2.2.2.2.2.2.1 < s.2.2.2.2.2.1))
    (Option.bind (getI s.2.1 s.2.2.1) fun (x1 : (List Int)) =>
    (Option.bind (getI s.2.1 s.2.2.1) fun (x2 : (List Int)) =>
    (Option.bind (getI x2 s.2.2.2.2.2.2.1) fun (x3 : Int) =>
    (Option.bind (getI x1 s.2.2.2.2.2.2.1) fun (_x4 : Int) =>
    (kc (s.1, ((List.set s.2.1 (Int.toNat s.2.2.1) (List.set x1 (Int.toNat s.2.2.2.2.2.2.1) (wr ((0 : Int) - x3)))), (s.2.2.1, (s.2.2.2.1, (s.2.2.2.2.1, (s.2.2.2.2.2.1, ((wr (s.2.2.2.2.2.2.1 + (1 : Int))), ()))))))))))))
    (ke (s.1, (s.2.1, (s.2.2.1, (s.2.2.2.1, (s.2.2.2.2.1, (s.2.2.2.2.2.1, (s.2.2.2.2.2.2.1, ())))))))))
def r_impl_LaplacianOf_L0 (c_impl_NetOk : (TNw × Unit → Option Bool)) (c_impl_table : (TNw × Unit → Option (List (List Int)))) (c_impl_WeightAt : (TNw × Int × Unit → Option Int)) (N : Nat) (s : (TNw × ((List (List Int)) × (Int × (Int × Unit))))) (kc ke : (TNw × ((List (List Int)) × (Int × (Int × Unit)))) → Option (List (List Int))) : Option (List (List Int)) :=
  (cond (decide (s.2.2.2.1 < s.2.2.1))
    (iterK (r_impl_LaplacianOf_L2 c_impl_NetOk c_impl_table c_impl_WeightAt N) N (s.1, (s.2.1, (s.2.2.2.1, (s.2.2.1, (s.2.2.2.1, ((((List.length s.2.1) : Nat) : Int), ((0 : Int), ()))))))) fun (s1 : (TNw × ((List (List Int)) × (Int × (Int × (Int × (Int × (Int × Unit)))))))) =>
    (Option.bind (getI s1.2.1 s1.2.2.1) fun (x2 : (List Int)) =>
    (Option.bind (c_impl_WeightAt (s1.1, (s1.2.2.1, ()))) fun (x3 : Int) =>
    (Option.bind (getI x2 s1.2.2.1) fun (_x4 : Int) =>
    (kc (s1.1, ((List.set s1.2.1 (Int.toNat s1.2.2.1) (List.set x2 (Int.toNat s1.2.2.1) x3)), (s1.2.2.2.1, ((wr (s1.2.2.2.2.1 + (1 : Int))), ())))))))))
    (ke (s.1, (s.2.1, (s.2.2.1, (s.2.2.2.1, ()))))))
def r_impl_LaplacianOf (c_impl_NetOk : (TNw × Unit → Option Bool)) (c_impl_table : (TNw × Unit → Option (List (List Int)))) (c_impl_WeightAt : (TNw × Int × Unit → Option Int)) (N : Nat) (a0 : TNw) : Option (List (List Int)) :=
  (Option.bind (c_impl_NetOk (a0, ())) fun (x1 : Bool) =>
  (cond (!x1)
    (some ([] : List (List Int)))
    (Option.bind (c_impl_table (a0, ())) fun (x2 : (List (List Int))) =>
    (iterK (r_impl_LaplacianOf_L0 c_impl_NetOk c_impl_table c_impl_WeightAt N) N (a0, (x2, ((((List.length x2) : Nat) : Int), ((0 : Int), ())))) fun (s3 : (TNw × ((List (List Int)) × (Int × (Int × Unit))))) =>
    (some s3.2.1)))))
noncomputable def e_impl_LaplacianOf (a : TNw × Unit) : Option (List (List Int)) := r_impl_LaplacianOf e_impl_NetOk e_impl_table e_impl_WeightAt N0 a.1
def r_impl_det_L0 (c_slices_Clone_int : ((List Int) × Unit → Option (List Int))) (m_slices_Delete_int : ((List Int) → (Int × Int × Unit) → Option ((List Int) × (List Int)))) (c_impl_det : ((List (List Int)) × (List Int) × (List Int) × Unit → Option Int)) (_N : Nat) (s : ((List (List Int)) × ((List Int) × ((List Int) × (Int × (Int × ((List Int) × (Int × (Int × Unit))))))))) (kc ke : ((List (List Int)) × ((List Int) × ((List Int) × (Int × (Int × ((List Int) × (Int × (Int × Unit)))))))) → Option Int) : Option Int :=
  (cond (decide (s.2.2.2.2.2.2.2.1 < s.2.2.2.2.2.2.1))
    (Option.bind (getI s.2.2.2.2.2.1 s.2.2.2.2.2.2.2.1) fun (x1 : Int) =>
    (Option.bind (getI s.2.1 (0 : Int)) fun (x2 : Int) =>
    (Option.bind (getI s.1 x2) fun (x3 : (List Int)) =>
    (Option.bind (getI x3 x1) fun (x4 : Int) =>
    (cond (!(decide (x4 = (0 : Int))))
      (cond (decide ((1 : Int) ≤ (((List.length s.2.1) : Nat) : Int)))
        (cond (decide ((((List.length s.2.1) : Nat) : Int) ≤ (((List.length s.2.1) : Nat) : Int)))
          (Option.bind (c_slices_Clone_int (s.2.2.1, ())) fun (x5 : (List Int)) =>
          (Option.bind (m_slices_Delete_int x5 (s.2.2.2.2.2.2.2.1, ((wr (s.2.2.2.2.2.2.2.1 + (1 : Int))), ()))) fun (x6 : ((List Int) × (List Int))) =>
          (Option.bind (c_impl_det (s.1, ((List.take ((Int.toNat (((List.length s.2.1) : Nat) : Int)) - (Int.toNat (1 : Int))) (List.drop (Int.toNat (1 : Int)) s.2.1)), (x6.2, ())))) fun (x7 : Int) =>
          (kc (s.1, (s.2.1, (s.2.2.1, ((wr (s.2.2.2.1 + (wr ((wr (s.2.2.2.2.1 * x4)) * x7)))), ((wr ((0 : Int) - s.2.2.2.2.1)), (s.2.2.2.2.2.1, (s.2.2.2.2.2.2.1, ((wr (s.2.2.2.2.2.2.2.1 + (1 : Int))), ()))))))))))))
          none)
        none)
      (kc (s.1, (s.2.1, (s.2.2.1, (s.2.2.2.1, ((wr ((0 : Int) - s.2.2.2.2.1)), (s.2.2.2.2.2.1, (s.2.2.2.2.2.2.1, ((wr (s.2.2.2.2.2.2.2.1 + (1 : Int))), ()))))))))))))))
    (ke (s.1, (s.2.1, (s.2.2.1, (s.2.2.2.1, (s.2.2.2.2.1, (s.2.2.2.2.2.1, (s.2.2.2.2.2.2.1, (s.2.2.2.2.2.2.2.1, ()))))))))))
def r_impl_det (c_slices_Clone_int : ((List Int) × Unit → Option (List Int))) (m_slices_Delete_int : ((List Int) → (Int × Int × Unit) → Option ((List Int) × (List Int)))) (c_impl_det : ((List (List Int)) × (List Int) × (List Int) × Unit → Option Int)) (N : Nat) (a0 : (List (List Int))) (a1 : (List Int)) (a2 : (List Int)) : Option Int :=
  (cond (decide ((((List.length a1) : Nat) : Int) = (0 : Int)))
    (some (1 : Int))
    (iterK (r_impl_det_L0 c_slices_Clone_int m_slices_Delete_int c_impl_det N) N (a0, (a1, (a2, ((0 : Int), ((1 : Int), (a2, ((((List.length a2) : Nat) : Int), ((0 : Int), ())))))))) fun (s1 : ((List (List Int)) × ((List Int) × ((List Int) × (Int × (Int × ((List Int) × (Int × (Int × Unit))))))))) =>
    (some s1.2.2.2.1)))
noncomputable def e_impl_det_n : Nat → ((List (List Int)) × (List Int) × (List Int) × Unit) → Option Int
  | 0, _ => none
  | n + 1, a => r_impl_det e_slices_Clone_int e_slices_Delete_int (e_impl_det_n n) N0 a.1 a.2.1 a.2.2.1
noncomputable def e_impl_det (a : (List (List Int)) × (List Int) × (List Int) × Unit) : Option Int := e_impl_det_n N0 a
def r_impl_response_L2 (_c_impl_LaplacianOf : (TNw × Unit → Option (List (List Int)))) (_c_impl_inner : (TNw × Unit → Option (List Int))) (c_impl_det : ((List (List Int)) × (List Int) × (List Int) × Unit → Option Int)) (_N : Nat) (s : (TNw × ((List (List Int)) × ((List Int) × ((List (List Int)) × (Int × (Int × (Int × (Int × (Int × Unit)))))))))) (kc ke : (TNw × ((List (List Int)) × ((List Int) × ((List (List Int)) × (Int × (Int × (Int × (Int × (Int × Unit))))))))) → Option ((List (List Int)) × Int)) : Option ((List (List Int)) × Int) :=
  (cond (decide (s.2.2.2.2.2.2.2.2.1 < s.2.2.2.2.2.2.2.1))
    (Option.bind (getI s.2.2.2.1 s.2.2.2.2.1) fun (x1 : (List Int)) =>
    (cond (Nat.ble ((List.length (s.2.2.2.2.1 :: ([] : List Int))) + (List.length s.2.2.1)) 17179869184)
      (cond (Nat.ble ((List.length (s.2.2.2.2.2.2.2.2.1 :: ([] : List Int))) + (List.length s.2.2.1)) 17179869184)
        (Option.bind (c_impl_det (s.2.1, (((s.2.2.2.2.1 :: ([] : List Int)) ++ s.2.2.1), (((s.2.2.2.2.2.2.2.2.1 :: ([] : List Int)) ++ s.2.2.1), ())))) fun (x2 : Int) =>
        (cond (Nat.ble ((List.length x1) + (List.length (x2 :: ([] : List Int)))) 17179869184)
          (Option.bind (getI s.2.2.2.1 s.2.2.2.2.1) fun (_x3 : (List Int)) =>
          (cond (@Go.Sx.samePath (([] : List PS) ++ ((@Go.Sx.PS.idx (Int.toNat s.2.2.2.2.1)) :: ([] : List PS))) (([] : List PS) ++ ((@Go.Sx.PS.idx (Int.toNat s.2.2.2.2.1)) :: ([] : List PS))))
            (kc (s.1, (s.2.1, (s.2.2.1, ((List.set s.2.2.2.1 (Int.toNat s.2.2.2.2.1) (x1 ++ (x2 :: ([] : List Int)))), (s.2.2.2.2.1, (s.2.2.2.2.2.1, (s.2.2.2.2.2.2.1, (s.2.2.2.2.2.2.2.1, ((wr (s.2.2.2.2.2.2.2.2.1 + (1 : Int))), ()))))))))))
            none))
          none))
        none)
      none))
    (ke (s.1, (s.2.1, (s.2.2.1, (s.2.2.2.1, (s.2.2.2.2.1, (s.2.2.2.2.2.1, (s.2.2.2.2.2.2.1, (s.2.2.2.2.2.2.2.1, (s.2.2.2.2.2.2.2.2.1, ())))))))))))
def r_impl_response_L0 (c_impl_LaplacianOf : (TNw × Unit → Option (List (List Int)))) (c_impl_inner : (TNw × Unit → Option (List Int))) (c_impl_det : ((List (List Int)) × (List Int) × (List Int) × Unit → Option Int)) (N : Nat) (s : (TNw × ((List (List Int)) × ((List Int) × ((List (List Int)) × (Int × (Int × Unit))))))) (kc ke : (TNw × ((List (List Int)) × ((List Int) × ((List (List Int)) × (Int × (Int × Unit)))))) → Option ((List (List Int)) × Int)) : Option ((List (List Int)) × Int) :=
  (cond (decide (s.2.2.2.2.2.1 < s.2.2.2.2.1))
    (iterK (r_impl_response_L2 c_impl_LaplacianOf c_impl_inner c_impl_det N) N (s.1, (s.2.1, (s.2.2.1, (s.2.2.2.1, (s.2.2.2.2.2.1, (s.2.2.2.2.1, (s.2.2.2.2.2.1, ((((List.length s.2.2.2.1) : Nat) : Int), ((0 : Int), ()))))))))) fun (s1 : (TNw × ((List (List Int)) × ((List Int) × ((List (List Int)) × (Int × (Int × (Int × (Int × (Int × Unit)))))))))) =>
    (kc (s1.1, (s1.2.1, (s1.2.2.1, (s1.2.2.2.1, (s1.2.2.2.2.2.1, ((wr (s1.2.2.2.2.2.2.1 + (1 : Int))), ()))))))))
    (ke (s.1, (s.2.1, (s.2.2.1, (s.2.2.2.1, (s.2.2.2.2.1, (s.2.2.2.2.2.1, ()))))))))
def r_impl_response (c_impl_LaplacianOf : (TNw × Unit → Option (List (List Int)))) (c_impl_inner : (TNw × Unit → Option (List Int))) (c_impl_det : ((List (List Int)) × (List Int) × (List Int) × Unit → Option Int)) (N : Nat) (a0 : TNw) : Option ((List (List Int)) × Int) :=
  (Option.bind (c_impl_LaplacianOf (a0, ())) fun (x1 : (List (List Int))) =>
  (Option.bind (c_impl_inner (a0, ())) fun (x2 : (List Int)) =>
  (cond (decide ((0 : Int) ≤ a0.2.1))
    (cond (Nat.ble (Int.toNat a0.2.1) 17179869184)
      (iterK (r_impl_response_L0 c_impl_LaplacianOf c_impl_inner c_impl_det N) N (a0, (x1, (x2, ((List.replicate (Int.toNat a0.2.1) ([] : List Int)), ((((List.length (List.replicate (Int.toNat a0.2.1) ([] : List Int))) : Nat) : Int), ((0 : Int), ())))))) fun (s3 : (TNw × ((List (List Int)) × ((List Int) × ((List (List Int)) × (Int × (Int × Unit))))))) =>
      (Option.bind (c_impl_det (s3.2.1, (s3.2.2.1, (s3.2.2.1, ())))) fun (x4 : Int) =>
      (some (s3.2.2.2.1, (wr (s3.1.2.2.1 * x4))))))
      none)
    none)))
noncomputable def e_impl_response (a : TNw × Unit) : Option ((List (List Int)) × Int) := r_impl_response e_impl_LaplacianOf e_impl_inner e_impl_det N0 a.1
def r_impl_RatioOf (c_impl_size : (Int × Unit → Option Int)) (c_impl_common : (Int × Int × Unit → Option Int)) (_N : Nat) (a0 : Int) (a1 : Int) : Option (Int × Int) :=
  (cond (decide (a1 = (0 : Int)))
    (some ((0 : Int), (0 : Int)))
    (Option.bind (c_impl_size (a0, ())) fun (x1 : Int) =>
    (Option.bind (c_impl_size (a1, ())) fun (x2 : Int) =>
    (Option.bind (c_impl_common (x1, (x2, ()))) fun (x3 : Int) =>
    (Option.bind (c_impl_size (a0, ())) fun (x4 : Int) =>
    (cond (decide (x3 = (0 : Int)))
      none
      (Option.bind (c_impl_size (a1, ())) fun (x5 : Int) =>
      (cond (decide (x3 = (0 : Int)))
        none
        (cond (decide ((Go.IntKind.wrap @Go.IntKind.u64 (Int.tdiv x4 x3)) > (1000000000000000000 : Int)))
          (some ((0 : Int), (0 : Int)))
          (cond (decide ((Go.IntKind.wrap @Go.IntKind.u64 (Int.tdiv x5 x3)) > (1000000000000000 : Int)))
            (some ((0 : Int), (0 : Int)))
            (cond (!(beqB (decide (a0 < (0 : Int))) (decide (a1 < (0 : Int)))))
              (some ((wr ((0 : Int) - (wr (Go.IntKind.wrap @Go.IntKind.u64 (Int.tdiv x4 x3))))), (wr (Go.IntKind.wrap @Go.IntKind.u64 (Int.tdiv x5 x3)))))
              (some ((wr (Go.IntKind.wrap @Go.IntKind.u64 (Int.tdiv x4 x3))), (wr (Go.IntKind.wrap @Go.IntKind.u64 (Int.tdiv x5 x3))))))))))))))))
noncomputable def e_impl_RatioOf (a : Int × Int × Unit) : Option (Int × Int) := r_impl_RatioOf e_impl_size e_impl_common N0 a.1 a.2.1
def r_impl_CurrentsFor_L4 (_c_impl_NetOk : (TNw × Unit → Option Bool)) (_c_impl_response : (TNw × Unit → Option ((List (List Int)) × Int))) (_c_impl_RatioOf : (Int × Int × Unit → Option (Int × Int))) (_N : Nat) (s : ((List Int) × ((List (List Int)) × (Int × ((List (Int × Int)) × (Int × (Int × (Int × (Int × ((List Int) × (Int × (Int × Unit)))))))))))) (kc ke : ((List Int) × ((List (List Int)) × (Int × ((List (Int × Int)) × (Int × (Int × (Int × (Int × ((List Int) × (Int × (Int × Unit))))))))))) → Option ((List (Int × Int)) × Bool)) : Option ((List (Int × Int)) × Bool) :=
  (cond (decide (s.2.2.2.2.2.2.2.2.2.2.1 < s.2.2.2.2.2.2.2.2.2.1))
    (Option.bind (getI s.2.2.2.2.2.2.2.2.1 s.2.2.2.2.2.2.2.2.2.2.1) fun (x1 : Int) =>
    (Option.bind (getI s.2.1 s.2.2.2.2.1) fun (x2 : (List Int)) =>
    (Option.bind (getI x2 s.2.2.2.2.2.2.2.2.2.2.1) fun (x3 : Int) =>
    (kc (s.1, (s.2.1, (s.2.2.1, (s.2.2.2.1, (s.2.2.2.2.1, ((wr (s.2.2.2.2.2.1 + (wr (x3 * x1)))), (s.2.2.2.2.2.2.1, (s.2.2.2.2.2.2.2.1, (s.2.2.2.2.2.2.2.2.1, (s.2.2.2.2.2.2.2.2.2.1, ((wr (s.2.2.2.2.2.2.2.2.2.2.1 + (1 : Int))), ())))))))))))))))
    (ke (s.1, (s.2.1, (s.2.2.1, (s.2.2.2.1, (s.2.2.2.2.1, (s.2.2.2.2.2.1, (s.2.2.2.2.2.2.1, (s.2.2.2.2.2.2.2.1, (s.2.2.2.2.2.2.2.2.1, (s.2.2.2.2.2.2.2.2.2.1, (s.2.2.2.2.2.2.2.2.2.2.1, ())))))))))))))
def r_impl_CurrentsFor_L2 (c_impl_NetOk : (TNw × Unit → Option Bool)) (c_impl_response : (TNw × Unit → Option ((List (List Int)) × Int))) (c_impl_RatioOf : (Int × Int × Unit → Option (Int × Int))) (N : Nat) (s : ((List Int) × ((List (List Int)) × (Int × ((List (Int × Int)) × (Int × (Int × Unit))))))) (kc ke : ((List Int) × ((List (List Int)) × (Int × ((List (Int × Int)) × (Int × (Int × Unit)))))) → Option ((List (Int × Int)) × Bool)) : Option ((List (Int × Int)) × Bool) :=
  (cond (decide (s.2.2.2.2.2.1 < s.2.2.2.2.1))
    (iterK (r_impl_CurrentsFor_L4 c_impl_NetOk c_impl_response c_impl_RatioOf N) N (s.1, (s.2.1, (s.2.2.1, (s.2.2.2.1, (s.2.2.2.2.2.1, ((0 : Int), (s.2.2.2.2.1, (s.2.2.2.2.2.1, (s.1, ((((List.length s.1) : Nat) : Int), ((0 : Int), ()))))))))))) fun (s1 : ((List Int) × ((List (List Int)) × (Int × ((List (Int × Int)) × (Int × (Int × (Int × (Int × ((List Int) × (Int × (Int × Unit)))))))))))) =>
    (Option.bind (c_impl_RatioOf (s1.2.2.2.2.2.1, (s1.2.2.1, ()))) fun (x2 : (Int × Int)) =>
    (cond (Nat.ble ((List.length s1.2.2.2.1) + (List.length (x2 :: ([] : List (Int × Int))))) 17179869184)
      (kc (s1.1, (s1.2.1, (s1.2.2.1, ((s1.2.2.2.1 ++ (x2 :: ([] : List (Int × Int)))), (s1.2.2.2.2.2.2.1, ((wr (s1.2.2.2.2.2.2.2.1 + (1 : Int))), ())))))))
      none)))
    (ke (s.1, (s.2.1, (s.2.2.1, (s.2.2.2.1, (s.2.2.2.2.1, (s.2.2.2.2.2.1, ()))))))))
def r_impl_CurrentsFor_L0 (_c_impl_NetOk : (TNw × Unit → Option Bool)) (_c_impl_response : (TNw × Unit → Option ((List (List Int)) × Int))) (_c_impl_RatioOf : (Int × Int × Unit → Option (Int × Int))) (_N : Nat) (s : ((List Int) × (TNw × ((List Int) × (Int × (Int × Unit)))))) (kc ke : ((List Int) × (TNw × ((List Int) × (Int × (Int × Unit))))) → Option ((List (Int × Int)) × Bool)) : Option ((List (Int × Int)) × Bool) :=
  (cond (decide (s.2.2.2.2.1 < s.2.2.2.1))
    (Option.bind (getI s.2.2.1 s.2.2.2.2.1) fun (x1 : Int) =>
    (cond (decide (x1 < (-(100 : Int))))
      (some (([] : List (Int × Int)), false))
      (cond (decide (x1 > (100 : Int)))
        (some (([] : List (Int × Int)), false))
        (kc (s.1, (s.2.1, (s.2.2.1, (s.2.2.2.1, ((wr (s.2.2.2.2.1 + (1 : Int))), ())))))))))
    (ke (s.1, (s.2.1, (s.2.2.1, (s.2.2.2.1, (s.2.2.2.2.1, ())))))))
def r_impl_CurrentsFor (c_impl_NetOk : (TNw × Unit → Option Bool)) (c_impl_response : (TNw × Unit → Option ((List (List Int)) × Int))) (c_impl_RatioOf : (Int × Int × Unit → Option (Int × Int))) (N : Nat) (a0 : TNw) (a1 : (List Int)) : Option ((List (Int × Int)) × Bool) :=
  (Option.bind (c_impl_NetOk (a0, ())) fun (x1 : Bool) =>
  (cond (!x1)
    (some (([] : List (Int × Int)), false))
    (cond (!(decide ((((List.length a1) : Nat) : Int) = a0.2.1)))
      (some (([] : List (Int × Int)), false))
      (iterK (r_impl_CurrentsFor_L0 c_impl_NetOk c_impl_response c_impl_RatioOf N) N (a1, (a0, (a1, ((((List.length a1) : Nat) : Int), ((0 : Int), ()))))) fun (s2 : ((List Int) × (TNw × ((List Int) × (Int × (Int × Unit)))))) =>
      (Option.bind (c_impl_response (s2.2.1, ())) fun (x3 : ((List (List Int)) × Int)) =>
      (iterK (r_impl_CurrentsFor_L2 c_impl_NetOk c_impl_response c_impl_RatioOf N) N (s2.1, (x3.1, (x3.2, (([] : List (Int × Int)), ((((List.length x3.1) : Nat) : Int), ((0 : Int), ())))))) fun (s4 : ((List Int) × ((List (List Int)) × (Int × ((List (Int × Int)) × (Int × (Int × Unit))))))) =>
      (some (s4.2.2.2.1, true))))))))
noncomputable def e_impl_CurrentsFor (a : TNw × (List Int) × Unit) : Option ((List (Int × Int)) × Bool) := r_impl_CurrentsFor e_impl_NetOk e_impl_response e_impl_RatioOf N0 a.1 a.2.1
def r_impl_PowerFor_L2 (_c_impl_CurrentsFor : (TNw × (List Int) × Unit → Option ((List (Int × Int)) × Bool))) (_c_impl_response : (TNw × Unit → Option ((List (List Int)) × Int))) (_c_impl_RatioOf : (Int × Int × Unit → Option (Int × Int))) (_N : Nat) (s : ((List Int) × ((Int × Int) × ((List (List Int)) × (Int × (Int × (Int × (Int × ((List Int) × (Int × (Int × ((List Int) × (Int × (Int × Unit)))))))))))))) (kc ke : ((List Int) × ((Int × Int) × ((List (List Int)) × (Int × (Int × (Int × (Int × ((List Int) × (Int × (Int × ((List Int) × (Int × (Int × Unit))))))))))))) → Option ((Int × Int) × Bool)) : Option ((Int × Int) × Bool) :=
  (cond (decide (s.2.2.2.2.2.2.2.2.2.2.2.2.1 < s.2.2.2.2.2.2.2.2.2.2.2.1))
    (Option.bind (getI s.2.2.2.2.2.2.2.2.2.2.1 s.2.2.2.2.2.2.2.2.2.2.2.2.1) fun (x1 : Int) =>
    (Option.bind (getI s.2.2.1 s.2.2.2.2.2.1) fun (x2 : (List Int)) =>
    (Option.bind (getI x2 s.2.2.2.2.2.2.2.2.2.2.2.2.1) fun (x3 : Int) =>
    (kc (s.1, (s.2.1, (s.2.2.1, (s.2.2.2.1, ((wr (s.2.2.2.2.1 + (wr ((wr (x3 * s.2.2.2.2.2.2.1)) * x1)))), (s.2.2.2.2.2.1, (s.2.2.2.2.2.2.1, (s.2.2.2.2.2.2.2.1, (s.2.2.2.2.2.2.2.2.1, (s.2.2.2.2.2.2.2.2.2.1, (s.2.2.2.2.2.2.2.2.2.2.1, (s.2.2.2.2.2.2.2.2.2.2.2.1, ((wr (s.2.2.2.2.2.2.2.2.2.2.2.2.1 + (1 : Int))), ())))))))))))))))))
    (ke (s.1, (s.2.1, (s.2.2.1, (s.2.2.2.1, (s.2.2.2.2.1, (s.2.2.2.2.2.1, (s.2.2.2.2.2.2.1, (s.2.2.2.2.2.2.2.1, (s.2.2.2.2.2.2.2.2.1, (s.2.2.2.2.2.2.2.2.2.1, (s.2.2.2.2.2.2.2.2.2.2.1, (s.2.2.2.2.2.2.2.2.2.2.2.1, (s.2.2.2.2.2.2.2.2.2.2.2.2.1, ())))))))))))))))
def r_impl_PowerFor_L0 (c_impl_CurrentsFor : (TNw × (List Int) × Unit → Option ((List (Int × Int)) × Bool))) (c_impl_response : (TNw × Unit → Option ((List (List Int)) × Int))) (c_impl_RatioOf : (Int × Int × Unit → Option (Int × Int))) (N : Nat) (s : ((List Int) × ((Int × Int) × ((List (List Int)) × (Int × (Int × ((List Int) × (Int × (Int × Unit))))))))) (kc ke : ((List Int) × ((Int × Int) × ((List (List Int)) × (Int × (Int × ((List Int) × (Int × (Int × Unit)))))))) → Option ((Int × Int) × Bool)) : Option ((Int × Int) × Bool) :=
  (cond (decide (s.2.2.2.2.2.2.2.1 < s.2.2.2.2.2.2.1))
    (Option.bind (getI s.2.2.2.2.2.1 s.2.2.2.2.2.2.2.1) fun (x1 : Int) =>
    (iterK (r_impl_PowerFor_L2 c_impl_CurrentsFor c_impl_response c_impl_RatioOf N) N (s.1, (s.2.1, (s.2.2.1, (s.2.2.2.1, (s.2.2.2.2.1, (s.2.2.2.2.2.2.2.1, (x1, (s.2.2.2.2.2.1, (s.2.2.2.2.2.2.1, (s.2.2.2.2.2.2.2.1, (s.1, ((((List.length s.1) : Nat) : Int), ((0 : Int), ()))))))))))))) fun (s2 : ((List Int) × ((Int × Int) × ((List (List Int)) × (Int × (Int × (Int × (Int × ((List Int) × (Int × (Int × ((List Int) × (Int × (Int × Unit)))))))))))))) =>
    (kc (s2.1, (s2.2.1, (s2.2.2.1, (s2.2.2.2.1, (s2.2.2.2.2.1, (s2.2.2.2.2.2.2.2.1, (s2.2.2.2.2.2.2.2.2.1, ((wr (s2.2.2.2.2.2.2.2.2.2.1 + (1 : Int))), ())))))))))))
    (ke (s.1, (s.2.1, (s.2.2.1, (s.2.2.2.1, (s.2.2.2.2.1, (s.2.2.2.2.2.1, (s.2.2.2.2.2.2.1, (s.2.2.2.2.2.2.2.1, ()))))))))))
def r_impl_PowerFor (c_impl_CurrentsFor : (TNw × (List Int) × Unit → Option ((List (Int × Int)) × Bool))) (c_impl_response : (TNw × Unit → Option ((List (List Int)) × Int))) (c_impl_RatioOf : (Int × Int × Unit → Option (Int × Int))) (N : Nat) (a0 : TNw) (a1 : (List Int)) : Option ((Int × Int) × Bool) :=
  (Option.bind (c_impl_CurrentsFor (a0, (a1, ()))) fun (x1 : ((List (Int × Int)) × Bool)) =>
  (cond (!x1.2)
    (some (((0 : Int), (0 : Int)), false))
    (Option.bind (c_impl_response (a0, ())) fun (x2 : ((List (List Int)) × Int)) =>
    (iterK (r_impl_PowerFor_L0 c_impl_CurrentsFor c_impl_response c_impl_RatioOf N) N (a1, (((0 : Int), (0 : Int)), (x2.1, (x2.2, ((0 : Int), (a1, ((((List.length a1) : Nat) : Int), ((0 : Int), ())))))))) fun (s3 : ((List Int) × ((Int × Int) × ((List (List Int)) × (Int × (Int × ((List Int) × (Int × (Int × Unit))))))))) =>
    (Option.bind (c_impl_RatioOf (s3.2.2.2.2.1, (s3.2.2.2.1, ()))) fun (x4 : (Int × Int)) =>
    (some (x4, true)))))))
noncomputable def e_impl_PowerFor (a : TNw × (List Int) × Unit) : Option ((Int × Int) × Bool) := r_impl_PowerFor e_impl_CurrentsFor e_impl_response e_impl_RatioOf N0 a.1 a.2.1
def r_slices_Index_int_L0 (_N : Nat) (s : ((List Int) × (Int × (Int × (Int × Unit))))) (kc ke : ((List Int) × (Int × (Int × (Int × Unit)))) → Option Int) : Option Int :=
  (cond (decide (s.2.2.2.1 < s.2.2.1))
    (Option.bind (getI s.1 s.2.2.2.1) fun (x1 : Int) =>
    (cond (decide (s.2.1 = x1))
      (some s.2.2.2.1)
      (kc (s.1, (s.2.1, (s.2.2.1, ((wr (s.2.2.2.1 + (1 : Int))), ())))))))
    (ke (s.1, (s.2.1, (s.2.2.1, (s.2.2.2.1, ()))))))
def r_slices_Index_int (N : Nat) (a0 : (List Int)) (a1 : Int) : Option Int :=
  (iterK (r_slices_Index_int_L0 N) N (a0, (a1, ((((List.length a0) : Nat) : Int), ((0 : Int), ())))) fun (_s1 : ((List Int) × (Int × (Int × (Int × Unit))))) =>
  (some (-(1 : Int))))
noncomputable def e_slices_Index_int (a : (List Int) × Int × Unit) : Option Int := r_slices_Index_int N0 a.1 a.2.1
def r_slices_Contains_int (c_slices_Index_int : ((List Int) × Int × Unit → Option Int)) (_N : Nat) (a0 : (List Int)) (a1 : Int) : Option Bool :=
  (Option.bind (c_slices_Index_int (a0, (a1, ()))) fun (x1 : Int) =>
  (some (decide (x1 ≥ (0 : Int)))))
noncomputable def e_slices_Contains_int (a : (List Int) × Int × Unit) : Option Bool := r_slices_Contains_int e_slices_Index_int N0 a.1 a.2.1
def r_impl_others_L0 (c_slices_Contains_int : ((List Int) × Int × Unit → Option Bool)) (_N : Nat) (s : ((List Int) × ((List Int) × (Int × (Int × Unit))))) (kc ke : ((List Int) × ((List Int) × (Int × (Int × Unit)))) → Option (List Int)) : Option (List Int) :=
  (cond (decide (s.2.2.2.1 < s.2.2.1))
    (Option.bind (c_slices_Contains_int (s.1, (s.2.2.2.1, ()))) fun (x1 : Bool) =>
    (cond (!x1)
      (cond (Nat.ble ((List.length s.2.1) + (List.length (s.2.2.2.1 :: ([] : List Int)))) 17179869184)
        (kc (s.1, ((s.2.1 ++ (s.2.2.2.1 :: ([] : List Int))), (s.2.2.1, ((wr (s.2.2.2.1 + (1 : Int))), ())))))
        none)
      (kc (s.1, (s.2.1, (s.2.2.1, ((wr (s.2.2.2.1 + (1 : Int))), ())))))))
    (ke (s.1, (s.2.1, (s.2.2.1, (s.2.2.2.1, ()))))))
def r_impl_others (c_slices_Contains_int : ((List Int) × Int × Unit → Option Bool)) (N : Nat) (a0 : TNw) (a1 : (List Int)) : Option (List Int) :=
  (iterK (r_impl_others_L0 c_slices_Contains_int N) N (a1, (([] : List Int), (a0.1, ((0 : Int), ())))) fun (s1 : ((List Int) × ((List Int) × (Int × (Int × Unit))))) =>
  (some s1.2.1))
noncomputable def e_impl_others (a : TNw × (List Int) × Unit) : Option (List Int) := r_impl_others e_slices_Contains_int N0 a.1 a.2.1
def r_impl_left (c_impl_LaplacianOf : (TNw × Unit → Option (List (List Int)))) (c_impl_others : (TNw × (List Int) × Unit → Option (List Int))) (c_impl_det : ((List (List Int)) × (List Int) × (List Int) × Unit → Option Int)) (_N : Nat) (a0 : TNw) (a1 : (List Int)) (a2 : (List Int)) : Option Int :=
  (Option.bind (c_impl_LaplacianOf (a0, ())) fun (x1 : (List (List Int))) =>
  (Option.bind (c_impl_others (a0, (a1, ()))) fun (x2 : (List Int)) =>
  (Option.bind (c_impl_others (a0, (a2, ()))) fun (x3 : (List Int)) =>
  (Option.bind (c_impl_det (x1, (x2, (x3, ())))) fun (x4 : Int) =>
  (some x4)))))
noncomputable def e_impl_left (a : TNw × (List Int) × (List Int) × Unit) : Option Int := r_impl_left e_impl_LaplacianOf e_impl_others e_impl_det N0 a.1 a.2.1 a.2.2.1
def r_impl_ForestSum (c_impl_NetOk : (TNw × Unit → Option Bool)) (c_impl_isNode : (TNw × Int × Unit → Option Bool)) (c_impl_left : (TNw × (List Int) × (List Int) × Unit → Option Int)) (_N : Nat) (a0 : TNw) (a1 : Int) (a2 : Int) : Option Int :=
  (Option.bind (c_impl_NetOk (a0, ())) fun (x1 : Bool) =>
  (cond (!x1)
    (some (0 : Int))
    (Option.bind (c_impl_isNode (a0, (a1, ()))) fun (x2 : Bool) =>
    (cond (!x2)
      (some (0 : Int))
      (Option.bind (c_impl_isNode (a0, (a2, ()))) fun (x3 : Bool) =>
      (cond (!x3)
        (some (0 : Int))
        (cond (decide (a1 = a2))
          (some (0 : Int))
          (Option.bind (c_impl_left (a0, ((a1 :: (a2 :: ([] : List Int))), ((a1 :: (a2 :: ([] : List Int))), ())))) fun (x4 : Int) =>
          (some x4)))))))))
noncomputable def e_impl_ForestSum (a : TNw × Int × Int × Unit) : Option Int := r_impl_ForestSum e_impl_NetOk e_impl_isNode e_impl_left N0 a.1 a.2.1 a.2.2.1
def r_impl_TreeSum (c_impl_NetOk : (TNw × Unit → Option Bool)) (c_impl_left : (TNw × (List Int) × (List Int) × Unit → Option Int)) (_N : Nat) (a0 : TNw) : Option Int :=
  (Option.bind (c_impl_NetOk (a0, ())) fun (x1 : Bool) =>
  (cond (!x1)
    (some (0 : Int))
    (Option.bind (c_impl_left (a0, (((0 : Int) :: ([] : List Int)), (((0 : Int) :: ([] : List Int)), ())))) fun (x2 : Int) =>
    (some x2))))
noncomputable def e_impl_TreeSum (a : TNw × Unit) : Option Int := r_impl_TreeSum e_impl_NetOk e_impl_left N0 a.1
def r_impl_ResistanceOf (c_impl_NetOk : (TNw × Unit → Option Bool)) (c_impl_isNode : (TNw × Int × Unit → Option Bool)) (c_impl_ForestSum : (TNw × Int × Int × Unit → Option Int)) (c_impl_TreeSum : (TNw × Unit → Option Int)) (c_impl_RatioOf : (Int × Int × Unit → Option (Int × Int))) (_N : Nat) (a0 : TNw) (a1 : Int) (a2 : Int) : Option ((Int × Int) × Bool) :=
  (Option.bind (c_impl_NetOk (a0, ())) fun (x1 : Bool) =>
  (cond (!x1)
    (some (((0 : Int), (0 : Int)), false))
    (Option.bind (c_impl_isNode (a0, (a1, ()))) fun (x2 : Bool) =>
    (cond (!x2)
      (some (((0 : Int), (0 : Int)), false))
      (Option.bind (c_impl_isNode (a0, (a2, ()))) fun (x3 : Bool) =>
      (cond (!x3)
        (some (((0 : Int), (0 : Int)), false))
        (Option.bind (c_impl_ForestSum (a0, (a1, (a2, ())))) fun (x4 : Int) =>
        (Option.bind (c_impl_TreeSum (a0, ())) fun (x5 : Int) =>
        (Option.bind (c_impl_RatioOf ((wr (a0.2.2.1 * x4)), (x5, ()))) fun (x6 : (Int × Int)) =>
        (some (x6, true)))))))))))
noncomputable def e_impl_ResistanceOf (a : TNw × Int × Int × Unit) : Option ((Int × Int) × Bool) := r_impl_ResistanceOf e_impl_NetOk e_impl_isNode e_impl_ForestSum e_impl_TreeSum e_impl_RatioOf N0 a.1 a.2.1 a.2.2.1
def r_impl_ResponseOf_L2 (_c_impl_NetOk : (TNw × Unit → Option Bool)) (_c_impl_response : (TNw × Unit → Option ((List (List Int)) × Int))) (c_impl_RatioOf : (Int × Int × Unit → Option (Int × Int))) (_N : Nat) (s : ((List (List Int)) × (Int × ((List (List (Int × Int))) × (Int × (Int × (Int × ((List Int) × (Int × (Int × Unit)))))))))) (kc ke : ((List (List Int)) × (Int × ((List (List (Int × Int))) × (Int × (Int × (Int × ((List Int) × (Int × (Int × Unit))))))))) → Option ((List (List (Int × Int))) × Bool)) : Option ((List (List (Int × Int))) × Bool) :=
  (cond (decide (s.2.2.2.2.2.2.2.2.1 < s.2.2.2.2.2.2.2.1))
    (Option.bind (getI s.2.2.2.2.2.2.1 s.2.2.2.2.2.2.2.2.1) fun (x1 : Int) =>
    (Option.bind (getI s.2.2.1 s.2.2.2.1) fun (x2 : (List (Int × Int))) =>
    (Option.bind (c_impl_RatioOf (x1, (s.2.1, ()))) fun (x3 : (Int × Int)) =>
    (cond (Nat.ble ((List.length x2) + (List.length (x3 :: ([] : List (Int × Int))))) 17179869184)
      (Option.bind (getI s.2.2.1 s.2.2.2.1) fun (_x4 : (List (Int × Int))) =>
      (cond (@Go.Sx.samePath (([] : List PS) ++ ((@Go.Sx.PS.idx (Int.toNat s.2.2.2.1)) :: ([] : List PS))) (([] : List PS) ++ ((@Go.Sx.PS.idx (Int.toNat s.2.2.2.1)) :: ([] : List PS))))
        (kc (s.1, (s.2.1, ((List.set s.2.2.1 (Int.toNat s.2.2.2.1) (x2 ++ (x3 :: ([] : List (Int × Int))))), (s.2.2.2.1, (s.2.2.2.2.1, (s.2.2.2.2.2.1, (s.2.2.2.2.2.2.1, (s.2.2.2.2.2.2.2.1, ((wr (s.2.2.2.2.2.2.2.2.1 + (1 : Int))), ()))))))))))
        none))
      none))))
    (ke (s.1, (s.2.1, (s.2.2.1, (s.2.2.2.1, (s.2.2.2.2.1, (s.2.2.2.2.2.1, (s.2.2.2.2.2.2.1, (s.2.2.2.2.2.2.2.1, (s.2.2.2.2.2.2.2.2.1, ())))))))))))
def r_impl_ResponseOf_L0 (c_impl_NetOk : (TNw × Unit → Option Bool)) (c_impl_response : (TNw × Unit → Option ((List (List Int)) × Int))) (c_impl_RatioOf : (Int × Int × Unit → Option (Int × Int))) (N : Nat) (s : ((List (List Int)) × (Int × ((List (List (Int × Int))) × (Int × (Int × Unit)))))) (kc ke : ((List (List Int)) × (Int × ((List (List (Int × Int))) × (Int × (Int × Unit))))) → Option ((List (List (Int × Int))) × Bool)) : Option ((List (List (Int × Int))) × Bool) :=
  (cond (decide (s.2.2.2.2.1 < s.2.2.2.1))
    (Option.bind (getI s.1 s.2.2.2.2.1) fun (x1 : (List Int)) =>
    (iterK (r_impl_ResponseOf_L2 c_impl_NetOk c_impl_response c_impl_RatioOf N) N (s.1, (s.2.1, (s.2.2.1, (s.2.2.2.2.1, (s.2.2.2.1, (s.2.2.2.2.1, (x1, ((((List.length x1) : Nat) : Int), ((0 : Int), ()))))))))) fun (s2 : ((List (List Int)) × (Int × ((List (List (Int × Int))) × (Int × (Int × (Int × ((List Int) × (Int × (Int × Unit)))))))))) =>
    (kc (s2.1, (s2.2.1, (s2.2.2.1, (s2.2.2.2.2.1, ((wr (s2.2.2.2.2.2.1 + (1 : Int))), ()))))))))
    (ke (s.1, (s.2.1, (s.2.2.1, (s.2.2.2.1, (s.2.2.2.2.1, ())))))))
def r_impl_ResponseOf (c_impl_NetOk : (TNw × Unit → Option Bool)) (c_impl_response : (TNw × Unit → Option ((List (List Int)) × Int))) (c_impl_RatioOf : (Int × Int × Unit → Option (Int × Int))) (N : Nat) (a0 : TNw) : Option ((List (List (Int × Int))) × Bool) :=
  (Option.bind (c_impl_NetOk (a0, ())) fun (x1 : Bool) =>
  (cond (!x1)
    (some (([] : List (List (Int × Int))), false))
    (Option.bind (c_impl_response (a0, ())) fun (x2 : ((List (List Int)) × Int)) =>
    (cond (Nat.ble (Int.toNat (((List.length x2.1) : Nat) : Int)) 17179869184)
      (iterK (r_impl_ResponseOf_L0 c_impl_NetOk c_impl_response c_impl_RatioOf N) N (x2.1, (x2.2, ((List.replicate (Int.toNat (((List.length x2.1) : Nat) : Int)) ([] : List (Int × Int))), ((((List.length x2.1) : Nat) : Int), ((0 : Int), ()))))) fun (s3 : ((List (List Int)) × (Int × ((List (List (Int × Int))) × (Int × (Int × Unit)))))) =>
      (some (s3.2.2.1, true)))
      none))))
noncomputable def e_impl_ResponseOf (a : TNw × Unit) : Option ((List (List (Int × Int))) × Bool) := r_impl_ResponseOf e_impl_NetOk e_impl_response e_impl_RatioOf N0 a.1
def r_slices_Equal_impl_Ratio_L0 (_N : Nat) (s : ((List (Int × Int)) × ((List (Int × Int)) × (Int × (Int × Unit))))) (kc ke : ((List (Int × Int)) × ((List (Int × Int)) × (Int × (Int × Unit)))) → Option Bool) : Option Bool :=
  (cond (decide (s.2.2.2.1 < s.2.2.1))
    (Option.bind (getI s.1 s.2.2.2.1) fun (x1 : (Int × Int)) =>
    (Option.bind (getI s.2.1 s.2.2.2.1) fun (x2 : (Int × Int)) =>
    (cond (!((intEq x1.1 x2.1) && (intEq x1.2 x2.2)))
      (some false)
      (kc (s.1, (s.2.1, (s.2.2.1, ((wr (s.2.2.2.1 + (1 : Int))), ()))))))))
    (ke (s.1, (s.2.1, (s.2.2.1, (s.2.2.2.1, ()))))))
def r_slices_Equal_impl_Ratio (N : Nat) (a0 : (List (Int × Int))) (a1 : (List (Int × Int))) : Option Bool :=
  (cond (!(decide ((((List.length a0) : Nat) : Int) = (((List.length a1) : Nat) : Int))))
    (some false)
    (iterK (r_slices_Equal_impl_Ratio_L0 N) N (a0, (a1, ((((List.length a0) : Nat) : Int), ((0 : Int), ())))) fun (_s1 : ((List (Int × Int)) × ((List (Int × Int)) × (Int × (Int × Unit))))) =>
    (some true)))
noncomputable def e_slices_Equal_impl_Ratio (a : (List (Int × Int)) × (List (Int × Int)) × Unit) : Option Bool := r_slices_Equal_impl_Ratio N0 a.1 a.2.1
def r_impl_SameResponse_1 (c_slices_Equal_impl_Ratio : ((List (Int × Int)) × (List (Int × Int)) × Unit → Option Bool)) (_N : Nat) (a0 : (List (Int × Int))) (a1 : (List (Int × Int))) : Option Bool :=
  (Option.bind (c_slices_Equal_impl_Ratio (a0, (a1, ()))) fun (x1 : Bool) =>
  (some x1))
noncomputable def e_impl_SameResponse_1 (a : (List (Int × Int)) × (List (Int × Int)) × Unit) : Option Bool := r_impl_SameResponse_1 e_slices_Equal_impl_Ratio N0 a.1 a.2.1
def r_slices_EqualFunc_Simpl_Ratio_L0 (c_impl_SameResponse_1 : ((List (Int × Int)) × (List (Int × Int)) × Unit → Option Bool)) (_N : Nat) (s : ((List (List (Int × Int))) × (Unit × ((List (List (Int × Int))) × (Int × (Int × Unit)))))) (kc ke : ((List (List (Int × Int))) × (Unit × ((List (List (Int × Int))) × (Int × (Int × Unit))))) → Option Bool) : Option Bool :=
  (cond (decide (s.2.2.2.2.1 < s.2.2.2.1))
    (Option.bind (getI s.2.2.1 s.2.2.2.2.1) fun (x1 : (List (Int × Int))) =>
    (Option.bind (getI s.1 s.2.2.2.2.1) fun (x2 : (List (Int × Int))) =>
    (Option.bind (c_impl_SameResponse_1 (x1, (x2, ()))) fun (x3 : Bool) =>
    (cond (!x3)
      (some false)
      (kc (s.1, (s.2.1, (s.2.2.1, (s.2.2.2.1, ((wr (s.2.2.2.2.1 + (1 : Int))), ()))))))))))
    (ke (s.1, (s.2.1, (s.2.2.1, (s.2.2.2.1, (s.2.2.2.2.1, ())))))))
def r_slices_EqualFunc_Simpl_Ratio (c_impl_SameResponse_1 : ((List (Int × Int)) × (List (Int × Int)) × Unit → Option Bool)) (N : Nat) (a0 : (List (List (Int × Int)))) (a1 : (List (List (Int × Int)))) (a2 : Unit) : Option Bool :=
  (cond (!(decide ((((List.length a0) : Nat) : Int) = (((List.length a1) : Nat) : Int))))
    (some false)
    (iterK (r_slices_EqualFunc_Simpl_Ratio_L0 c_impl_SameResponse_1 N) N (a1, (a2, (a0, ((((List.length a0) : Nat) : Int), ((0 : Int), ()))))) fun (_s1 : ((List (List (Int × Int))) × (Unit × ((List (List (Int × Int))) × (Int × (Int × Unit)))))) =>
    (some true)))
noncomputable def e_slices_EqualFunc_Simpl_Ratio (a : (List (List (Int × Int))) × (List (List (Int × Int))) × Unit × Unit) : Option Bool := r_slices_EqualFunc_Simpl_Ratio e_impl_SameResponse_1 N0 a.1 a.2.1 a.2.2.1
def r_impl_SameResponse (c_slices_EqualFunc_Simpl_Ratio : ((List (List (Int × Int))) × (List (List (Int × Int))) × Unit × Unit → Option Bool)) (_N : Nat) (a0 : (List (List (Int × Int)))) (a1 : (List (List (Int × Int)))) : Option Bool :=
  (Option.bind (c_slices_EqualFunc_Simpl_Ratio (a0, (a1, ((), ())))) fun (x1 : Bool) =>
  (some x1))
noncomputable def e_impl_SameResponse (a : (List (List (Int × Int))) × (List (List (Int × Int))) × Unit) : Option Bool := r_impl_SameResponse e_slices_EqualFunc_Simpl_Ratio N0 a.1 a.2.1
def r_impl_AreAlike (c_impl_ResponseOf : (TNw × Unit → Option ((List (List (Int × Int))) × Bool))) (c_impl_SameResponse : ((List (List (Int × Int))) × (List (List (Int × Int))) × Unit → Option Bool)) (_N : Nat) (a0 : TNw) (a1 : TNw) : Option Bool :=
  (Option.bind (c_impl_ResponseOf (a0, ())) fun (x1 : ((List (List (Int × Int))) × Bool)) =>
  (Option.bind (c_impl_ResponseOf (a1, ())) fun (x2 : ((List (List (Int × Int))) × Bool)) =>
  (cond x1.2
    (cond x2.2
      (Option.bind (c_impl_SameResponse (x1.1, (x2.1, ()))) fun (x3 : Bool) =>
      (some x3))
      (some false))
    (some false))))
noncomputable def e_impl_AreAlike (a : TNw × TNw × Unit) : Option Bool := r_impl_AreAlike e_impl_ResponseOf e_impl_SameResponse N0 a.1 a.2.1
def r_laws_FnTop_L2 (_c_spec_MakeInner : (Value × Unit → Option TNw)) (_c_impl_ReduceAll : (TNw × Unit → Option (TNw × (Int × Bool)))) (_c_spec_StarMesh : (TNw × Int × Unit → Option (TNw × Bool))) (_c_impl_StarMesh : (TNw × Int × Unit → Option (TNw × Bool))) (_c_spec_MakeVolts : (Value × Int × TNw × Unit → Option (List Int))) (_c_impl_CurrentsFor : (TNw × (List Int) × Unit → Option ((List (Int × Int)) × Bool))) (_c_impl_PowerFor : (TNw × (List Int) × Unit → Option ((Int × Int) × Bool))) (_c_impl_ResistanceOf : (TNw × Int × Int × Unit → Option ((Int × Int) × Bool))) (_c_impl_AreAlike : (TNw × TNw × Unit → Option Bool)) (_N : Nat) (s : (TNw × ((List Int) × ((List (Int × Int)) × ((List (Int × Int)) × ((List TNw) × (Int × (Int × (Int × (Int × Unit)))))))))) (kc ke : (TNw × ((List Int) × ((List (Int × Int)) × ((List (Int × Int)) × ((List TNw) × (Int × (Int × (Int × (Int × Unit))))))))) → Option Bool) : Option Bool :=
  (cond (decide (s.2.2.2.2.2.2.2.2.1 < s.2.2.2.2.2.2.2.1))
    (Option.bind (getI s.2.2.1 s.2.2.2.2.2.2.2.2.1) fun (x1 : (Int × Int)) =>
    (Option.bind (getI s.2.2.2.1 s.2.2.2.2.2.2.2.2.1) fun (x2 : (Int × Int)) =>
    (cond (!((intEq x1.1 x2.1) && (intEq x1.2 x2.2)))
      (some false)
      (kc (s.1, (s.2.1, (s.2.2.1, (s.2.2.2.1, (s.2.2.2.2.1, (s.2.2.2.2.2.1, (s.2.2.2.2.2.2.1, (s.2.2.2.2.2.2.2.1, ((wr (s.2.2.2.2.2.2.2.2.1 + (1 : Int))), ())))))))))))))
    (ke (s.1, (s.2.1, (s.2.2.1, (s.2.2.2.1, (s.2.2.2.2.1, (s.2.2.2.2.2.1, (s.2.2.2.2.2.2.1, (s.2.2.2.2.2.2.2.1, (s.2.2.2.2.2.2.2.2.1, ())))))))))))
def r_laws_FnTop_L0 (c_spec_MakeInner : (Value × Unit → Option TNw)) (c_impl_ReduceAll : (TNw × Unit → Option (TNw × (Int × Bool)))) (c_spec_StarMesh : (TNw × Int × Unit → Option (TNw × Bool))) (c_impl_StarMesh : (TNw × Int × Unit → Option (TNw × Bool))) (c_spec_MakeVolts : (Value × Int × TNw × Unit → Option (List Int))) (c_impl_CurrentsFor : (TNw × (List Int) × Unit → Option ((List (Int × Int)) × Bool))) (c_impl_PowerFor : (TNw × (List Int) × Unit → Option ((Int × Int) × Bool))) (c_impl_ResistanceOf : (TNw × Int × Int × Unit → Option ((Int × Int) × Bool))) (c_impl_AreAlike : (TNw × TNw × Unit → Option Bool)) (N : Nat) (s : (TNw × ((List Int) × ((List TNw) × (Int × (Int × Unit)))))) (kc ke : (TNw × ((List Int) × ((List TNw) × (Int × (Int × Unit))))) → Option Bool) : Option Bool :=
  (cond (decide (s.2.2.2.2.1 < s.2.2.2.1))
    (Option.bind (getI s.2.2.1 s.2.2.2.2.1) fun (x1 : TNw) =>
    (Option.bind (c_impl_CurrentsFor (s.1, (s.2.1, ()))) fun (x2 : ((List (Int × Int)) × Bool)) =>
    (Option.bind (c_impl_CurrentsFor (x1, (s.2.1, ()))) fun (x3 : ((List (Int × Int)) × Bool)) =>
    (Option.bind (c_impl_PowerFor (s.1, (s.2.1, ()))) fun (x4 : ((Int × Int) × Bool)) =>
    (Option.bind (c_impl_PowerFor (x1, (s.2.1, ()))) fun (x5 : ((Int × Int) × Bool)) =>
    (Option.bind (c_impl_ResistanceOf (s.1, ((0 : Int), ((1 : Int), ())))) fun (x6 : ((Int × Int) × Bool)) =>
    (Option.bind (c_impl_ResistanceOf (x1, ((0 : Int), ((1 : Int), ())))) fun (x7 : ((Int × Int) × Bool)) =>
    (cond (!x2.2)
      (some false)
      (cond (!x3.2)
        (some false)
        (cond (!x4.2)
          (some false)
          (cond (!x5.2)
            (some false)
            (cond (!x6.2)
              (some false)
              (cond (!x7.2)
                (some false)
                (cond (!(decide ((((List.length x2.1) : Nat) : Int) = s.1.2.1)))
                  (some false)
                  (cond (!(decide ((((List.length x3.1) : Nat) : Int) = s.1.2.1)))
                    (some false)
                    (cond (!((intEq x4.1.1 x5.1.1) && (intEq x4.1.2 x5.1.2)))
                      (some false)
                      (cond (!((intEq x6.1.1 x7.1.1) && (intEq x6.1.2 x7.1.2)))
                        (some false)
                        (Option.bind (c_impl_AreAlike (s.1, (x1, ()))) fun (x8 : Bool) =>
                        (cond (!x8)
                          (some false)
                          (iterK (r_laws_FnTop_L2 c_spec_MakeInner c_impl_ReduceAll c_spec_StarMesh c_impl_StarMesh c_spec_MakeVolts c_impl_CurrentsFor c_impl_PowerFor c_impl_ResistanceOf c_impl_AreAlike N) N (s.1, (s.2.1, (x2.1, (x3.1, (s.2.2.1, (s.2.2.2.1, (s.2.2.2.2.1, ((((List.length x2.1) : Nat) : Int), ((0 : Int), ()))))))))) fun (s9 : (TNw × ((List Int) × ((List (Int × Int)) × ((List (Int × Int)) × ((List TNw) × (Int × (Int × (Int × (Int × Unit)))))))))) =>
                          (kc (s9.1, (s9.2.1, (s9.2.2.2.2.1, (s9.2.2.2.2.2.1, ((wr (s9.2.2.2.2.2.2.1 + (1 : Int))), ()))))))))))))))))))))))))))
    (ke (s.1, (s.2.1, (s.2.2.1, (s.2.2.2.1, (s.2.2.2.2.1, ())))))))
def r_laws_FnTop (c_spec_MakeInner : (Value × Unit → Option TNw)) (c_impl_ReduceAll : (TNw × Unit → Option (TNw × (Int × Bool)))) (c_spec_StarMesh : (TNw × Int × Unit → Option (TNw × Bool))) (c_impl_StarMesh : (TNw × Int × Unit → Option (TNw × Bool))) (c_spec_MakeVolts : (Value × Int × TNw × Unit → Option (List Int))) (c_impl_CurrentsFor : (TNw × (List Int) × Unit → Option ((List (Int × Int)) × Bool))) (c_impl_PowerFor : (TNw × (List Int) × Unit → Option ((Int × Int) × Bool))) (c_impl_ResistanceOf : (TNw × Int × Int × Unit → Option ((Int × Int) × Bool))) (c_impl_AreAlike : (TNw × TNw × Unit → Option Bool)) (N : Nat) (a0 : Value) : Option Bool :=
  (Option.bind (rawLen a0) fun (x1 : Int) =>
  (cond (decide (x1 > (1048576 : Int)))
    (some true)
    (Option.bind (c_spec_MakeInner (a0, ())) fun (x2 : TNw) =>
    (Option.bind (c_impl_ReduceAll (x2, ())) fun (x3 : (TNw × (Int × Bool))) =>
    (Option.bind (c_spec_StarMesh (x2, ((wr (x2.1 - (1 : Int))), ()))) fun (x4 : (TNw × Bool)) =>
    (Option.bind (c_impl_StarMesh (x2, ((wr (x2.1 - (1 : Int))), ()))) fun (x5 : (TNw × Bool)) =>
    (cond (!x3.2.2)
      (some false)
      (cond (!(beqB x5.2 x4.2))
        (some false)
        (cond (!x5.2)
          (Option.bind (c_spec_MakeVolts (a0, ((30 : Int), (x2, ())))) fun (x6 : (List Int)) =>
          (iterK (r_laws_FnTop_L0 c_spec_MakeInner c_impl_ReduceAll c_spec_StarMesh c_impl_StarMesh c_spec_MakeVolts c_impl_CurrentsFor c_impl_PowerFor c_impl_ResistanceOf c_impl_AreAlike N) N (x2, (x6, ((x3.1 :: (x2 :: ([] : List TNw))), ((((List.length (x3.1 :: (x2 :: ([] : List TNw)))) : Nat) : Int), ((0 : Int), ()))))) fun (_s7 : (TNw × ((List Int) × ((List TNw) × (Int × (Int × Unit)))))) =>
          (some true)))
          (Option.bind (c_spec_MakeVolts (a0, ((30 : Int), (x2, ())))) fun (x8 : (List Int)) =>
          (iterK (r_laws_FnTop_L0 c_spec_MakeInner c_impl_ReduceAll c_spec_StarMesh c_impl_StarMesh c_spec_MakeVolts c_impl_CurrentsFor c_impl_PowerFor c_impl_ResistanceOf c_impl_AreAlike N) N (x2, (x8, ((x3.1 :: (x5.1 :: ([] : List TNw))), ((((List.length (x3.1 :: (x5.1 :: ([] : List TNw)))) : Nat) : Int), ((0 : Int), ()))))) fun (_s9 : (TNw × ((List Int) × ((List TNw) × (Int × (Int × Unit)))))) =>
          (some true))))))))))))
noncomputable def e_laws_FnTop (A : Option (Nat × Obj)) (a : Value × Unit) : Option Bool := r_laws_FnTop (e_spec_MakeInner A) e_impl_ReduceAll e_spec_StarMesh e_impl_StarMesh (e_spec_MakeVolts A) e_impl_CurrentsFor e_impl_PowerFor e_impl_ResistanceOf e_impl_AreAlike N0 a.1
end Go.Sx.R
