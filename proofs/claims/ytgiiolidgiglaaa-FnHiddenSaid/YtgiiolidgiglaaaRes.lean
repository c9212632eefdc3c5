/- What the functions compute. Conditions: none. -/
import Derived.Test.YtgiiolidgiglaaaSx4
/- What the functions compute, printed by program out of their code. Conditions: none (definitions). -/
namespace Go.Sx.R
open Go Go.Sx
def r_spec_l01New_L0 (A : Option (Nat × Obj)) (_N : Nat) (s : (Value × (Int × (Int × Unit)))) (kc ke : (Value × (Int × (Int × Unit))) → Option (Option (Value × (Int × Int)))) : Option (Option (Value × (Int × Int))) :=
  (Option.bind (rawLen s.1) fun (x1 : Int) =>
  (cond (decide (s.2.2.1 < x1))
    (cond (decide (s.2.2.1 < (4000 : Int)))
      (Option.bind (readAt A s.1 s.2.2.1) fun (x2 : Int) =>
      (kc (s.1, ((wr (((BitVec.toNat ((BitVec.ofInt (@Go.IntKind.bits @Go.IntKind.i64) (wr ((wr ((wr (s.2.1 * (103 : Int))) + (wr x2))) + (7 : Int)))) &&& (BitVec.ofInt (@Go.IntKind.bits @Go.IntKind.i64) (1073741823 : Int)))) : Nat) : Int)), ((wr (s.2.2.1 + (1 : Int))), ())))))
      (ke (s.1, (s.2.1, (s.2.2.1, ())))))
    (ke (s.1, (s.2.1, (s.2.2.1, ()))))))
def r_spec_l01New (A : Option (Nat × Obj)) (N : Nat) (a0 : Value) : Option (Option (Value × (Int × Int))) :=
  (Option.bind (rawLen a0) fun (x1 : Int) =>
  (iterK (r_spec_l01New_L0 A N) N (a0, ((wr ((2071 : Int) + x1)), ((0 : Int), ()))) fun (s2 : (Value × (Int × (Int × Unit)))) =>
  (some (some (s2.1, ((0 : Int), s2.2.1))))))

noncomputable def e_spec_l01New (A : Option (Nat × Obj)) (a : Value × Unit) : Option (Option (Value × Int × Int)) := r_spec_l01New A N0 a.1
def r_spec_l01Byte (A : Option (Nat × Obj)) (_N : Nat) (a0 : (Value × (Int × Int))) : Option ((Option (Value × (Int × Int))) × Int) :=
  (Option.bind (rawLen a0.1) fun (x1 : Int) =>
  (cond (decide (a0.2.1 < x1))
    (Option.bind (readAt A a0.1 a0.2.1) fun (x2 : Int) =>
    (some ((some (a0.1, ((wr (a0.2.1 + (1 : Int))), (wr ((wr (a0.2.2 * (6364136223846793005 : Int))) + (1442695040888963407 : Int)))))), (wr (((BitVec.toNat ((BitVec.ofInt (@Go.IntKind.bits @Go.IntKind.i64) (wr ((wr (((BitVec.toNat ((BitVec.ofInt (@Go.IntKind.bits @Go.IntKind.i64) (wr (((BitVec.toNat ((BitVec.ofInt (@Go.IntKind.bits @Go.IntKind.i64) (Int.fdiv (wr ((wr (a0.2.2 * (6364136223846793005 : Int))) + (1442695040888963407 : Int))) ((2 : Int) ^ (min (Int.toNat (33 : Int)) (@Go.IntKind.bits @Go.IntKind.i64))))) ^^^ (BitVec.ofInt (@Go.IntKind.bits @Go.IntKind.i64) (Int.fdiv (wr ((wr (a0.2.2 * (6364136223846793005 : Int))) + (1442695040888963407 : Int))) ((2 : Int) ^ (min (Int.toNat (45 : Int)) (@Go.IntKind.bits @Go.IntKind.i64))))))) : Nat) : Int))) &&& (BitVec.ofInt (@Go.IntKind.bits @Go.IntKind.i64) (255 : Int)))) : Nat) : Int)) + (wr x2)))) &&& (BitVec.ofInt (@Go.IntKind.bits @Go.IntKind.i64) (255 : Int)))) : Nat) : Int)))))
    (some ((some (a0.1, (a0.2.1, (wr ((wr (a0.2.2 * (6364136223846793005 : Int))) + (1442695040888963407 : Int)))))), (wr (((BitVec.toNat ((BitVec.ofInt (@Go.IntKind.bits @Go.IntKind.i64) (wr (((BitVec.toNat ((BitVec.ofInt (@Go.IntKind.bits @Go.IntKind.i64) (Int.fdiv (wr ((wr (a0.2.2 * (6364136223846793005 : Int))) + (1442695040888963407 : Int))) ((2 : Int) ^ (min (Int.toNat (33 : Int)) (@Go.IntKind.bits @Go.IntKind.i64))))) ^^^ (BitVec.ofInt (@Go.IntKind.bits @Go.IntKind.i64) (Int.fdiv (wr ((wr (a0.2.2 * (6364136223846793005 : Int))) + (1442695040888963407 : Int))) ((2 : Int) ^ (min (Int.toNat (45 : Int)) (@Go.IntKind.bits @Go.IntKind.i64))))))) : Nat) : Int))) &&& (BitVec.ofInt (@Go.IntKind.bits @Go.IntKind.i64) (255 : Int)))) : Nat) : Int))))))

noncomputable def e_spec_l01Byte (A : Option (Nat × Obj)) (y : Option (Value × Int × Int)) (_ : Unit) : Option (Option (Value × Int × Int) × Int) := Option.bind y fun y => r_spec_l01Byte A N0 y
def r_spec_l01Below (k_spec_l01Byte : (Option (Value × Int × Int) → (Unit) → Option (Option (Value × Int × Int) × Int))) (_N : Nat) (a0 : (Option (Value × (Int × Int)))) (a1 : Int) : Option ((Option (Value × (Int × Int))) × Int) :=
  (cond (decide (a1 ≤ (0 : Int)))
    (some (a0, (0 : Int)))
    (cond (decide (a1 ≤ (256 : Int)))
      (Option.bind (k_spec_l01Byte a0 ()) fun (x1 : ((Option (Value × (Int × Int))) × Int)) =>
      (cond (decide (a1 = (0 : Int)))
        none
        (some (x1.1, (Int.tmod x1.2 a1)))))
      (Option.bind (k_spec_l01Byte a0 ()) fun (x2 : ((Option (Value × (Int × Int))) × Int)) =>
      (Option.bind (k_spec_l01Byte x2.1 ()) fun (x3 : ((Option (Value × (Int × Int))) × Int)) =>
      (Option.bind (k_spec_l01Byte x3.1 ()) fun (x4 : ((Option (Value × (Int × Int))) × Int)) =>
      (Option.bind (k_spec_l01Byte x4.1 ()) fun (x5 : ((Option (Value × (Int × Int))) × Int)) =>
      (cond (decide (a1 = (0 : Int)))
        none
        (some (x5.1, (Int.tmod (wr ((wr ((wr ((wr (x2.2 * (16777216 : Int))) + (wr (x3.2 * (65536 : Int))))) + (wr (x4.2 * (256 : Int))))) + x5.2)) a1))))))))))

noncomputable def e_spec_l01Below (A : Option (Nat × Obj)) (y : Option (Value × Int × Int)) (a : Int × Unit) : Option (Option (Value × Int × Int) × Int) := r_spec_l01Below (e_spec_l01Byte A) N0 y a.1
def r_spec_l03Put_L2 (_N : Nat) (s : ((List (Int × (Int × Int))) × ((Int × (Int × Int)) × (Bool × ((List (Int × (Int × Int))) × (Int × (Int × Unit))))))) (kc ke : ((List (Int × (Int × Int))) × ((Int × (Int × Int)) × (Bool × ((List (Int × (Int × Int))) × (Int × (Int × Unit)))))) → Option (List (Int × (Int × Int)))) : Option (List (Int × (Int × Int))) :=
  (cond (decide (s.2.2.2.2.2.1 < s.2.2.2.2.1))
    (Option.bind (getI s.2.2.2.1 s.2.2.2.2.2.1) fun (x1 : (Int × (Int × Int))) =>
    (cond (!s.2.2.1)
      (cond (decide (x1.1 > s.2.1.1))
        (cond (Nat.ble ((List.length s.1) + (List.length (s.2.1 :: ([] : List (Int × (Int × Int)))))) 17179869184)
          (cond (Nat.ble ((List.length (s.1 ++ (s.2.1 :: ([] : List (Int × (Int × Int)))))) + (List.length (x1 :: ([] : List (Int × (Int × Int)))))) 17179869184)
            (kc (((s.1 ++ (s.2.1 :: ([] : List (Int × (Int × Int))))) ++ (x1 :: ([] : List (Int × (Int × Int))))), (s.2.1, (true, (s.2.2.2.1, (s.2.2.2.2.1, ((wr (s.2.2.2.2.2.1 + (1 : Int))), ())))))))
            none)
          none)
        (cond (decide (x1.1 = s.2.1.1))
          (cond (decide (x1.2.1 > s.2.1.2.1))
            (cond (Nat.ble ((List.length s.1) + (List.length (s.2.1 :: ([] : List (Int × (Int × Int)))))) 17179869184)
              (cond (Nat.ble ((List.length (s.1 ++ (s.2.1 :: ([] : List (Int × (Int × Int)))))) + (List.length (x1 :: ([] : List (Int × (Int × Int)))))) 17179869184)
                (kc (((s.1 ++ (s.2.1 :: ([] : List (Int × (Int × Int))))) ++ (x1 :: ([] : List (Int × (Int × Int))))), (s.2.1, (true, (s.2.2.2.1, (s.2.2.2.2.1, ((wr (s.2.2.2.2.2.1 + (1 : Int))), ())))))))
                none)
              none)
            (cond (Nat.ble ((List.length s.1) + (List.length (x1 :: ([] : List (Int × (Int × Int)))))) 17179869184)
              (kc ((s.1 ++ (x1 :: ([] : List (Int × (Int × Int))))), (s.2.1, (s.2.2.1, (s.2.2.2.1, (s.2.2.2.2.1, ((wr (s.2.2.2.2.2.1 + (1 : Int))), ())))))))
              none))
          (cond (Nat.ble ((List.length s.1) + (List.length (x1 :: ([] : List (Int × (Int × Int)))))) 17179869184)
            (kc ((s.1 ++ (x1 :: ([] : List (Int × (Int × Int))))), (s.2.1, (s.2.2.1, (s.2.2.2.1, (s.2.2.2.2.1, ((wr (s.2.2.2.2.2.1 + (1 : Int))), ())))))))
            none)))
      (cond (Nat.ble ((List.length s.1) + (List.length (x1 :: ([] : List (Int × (Int × Int)))))) 17179869184)
        (kc ((s.1 ++ (x1 :: ([] : List (Int × (Int × Int))))), (s.2.1, (s.2.2.1, (s.2.2.2.1, (s.2.2.2.2.1, ((wr (s.2.2.2.2.2.1 + (1 : Int))), ())))))))
        none)))
    (ke (s.1, (s.2.1, (s.2.2.1, (s.2.2.2.1, (s.2.2.2.2.1, (s.2.2.2.2.2.1, ()))))))))
def r_spec_l03Put_L0 (_N : Nat) (s : (Bool × ((List (Int × (Int × Int))) × ((Int × (Int × Int)) × (Bool × ((List (Int × (Int × Int))) × (Int × (Int × Unit)))))))) (kc ke : (Bool × ((List (Int × (Int × Int))) × ((Int × (Int × Int)) × (Bool × ((List (Int × (Int × Int))) × (Int × (Int × Unit))))))) → Option (List (Int × (Int × Int)))) : Option (List (Int × (Int × Int))) :=
  (cond (decide (s.2.2.2.2.2.2.1 < s.2.2.2.2.2.1))
    (Option.bind (getI s.2.2.2.2.1 s.2.2.2.2.2.2.1) fun (x1 : (Int × (Int × Int))) =>
    (cond (decide (x1.1 = s.2.2.1.1))
      (cond (decide (x1.2.1 = s.2.2.1.2.1))
        (cond s.1
          (kc (s.1, (s.2.1, ((s.2.2.1.1, (s.2.2.1.2.1, (wr (s.2.2.1.2.2 + x1.2.2)))), (s.2.2.2.1, (s.2.2.2.2.1, (s.2.2.2.2.2.1, ((wr (s.2.2.2.2.2.2.1 + (1 : Int))), ()))))))))
          (kc (s.1, (s.2.1, (s.2.2.1, (s.2.2.2.1, (s.2.2.2.2.1, (s.2.2.2.2.2.1, ((wr (s.2.2.2.2.2.2.1 + (1 : Int))), ())))))))))
        (cond (Nat.ble ((List.length s.2.1) + (List.length (x1 :: ([] : List (Int × (Int × Int)))))) 17179869184)
          (kc (s.1, ((s.2.1 ++ (x1 :: ([] : List (Int × (Int × Int))))), (s.2.2.1, (s.2.2.2.1, (s.2.2.2.2.1, (s.2.2.2.2.2.1, ((wr (s.2.2.2.2.2.2.1 + (1 : Int))), ()))))))))
          none))
      (cond (Nat.ble ((List.length s.2.1) + (List.length (x1 :: ([] : List (Int × (Int × Int)))))) 17179869184)
        (kc (s.1, ((s.2.1 ++ (x1 :: ([] : List (Int × (Int × Int))))), (s.2.2.1, (s.2.2.2.1, (s.2.2.2.2.1, (s.2.2.2.2.2.1, ((wr (s.2.2.2.2.2.2.1 + (1 : Int))), ()))))))))
        none)))
    (ke (s.1, (s.2.1, (s.2.2.1, (s.2.2.2.1, (s.2.2.2.2.1, (s.2.2.2.2.2.1, (s.2.2.2.2.2.2.1, ())))))))))
def r_spec_l03Put (N : Nat) (a0 : (List (Int × (Int × Int)))) (a1 : Int) (a2 : Int) (a3 : Int) (a4 : Bool) : Option (List (Int × (Int × Int))) :=
  (iterK (r_spec_l03Put_L0 N) N (a4, (([] : List (Int × (Int × Int))), (((@ite @Int (a2 < a1) (@Int.decLt a2 a1) a2 a1), ((@ite @Int (a2 > a1) (@Int.decLt a1 a2) a2 a1), a3)), (false, (a0, ((((List.length a0) : Nat) : Int), ((0 : Int), ()))))))) fun (s1 : (Bool × ((List (Int × (Int × Int))) × ((Int × (Int × Int)) × (Bool × ((List (Int × (Int × Int))) × (Int × (Int × Unit)))))))) =>
  (iterK (r_spec_l03Put_L2 N) N (([] : List (Int × (Int × Int))), (s1.2.2.1, (s1.2.2.2.1, (s1.2.1, ((((List.length s1.2.1) : Nat) : Int), ((0 : Int), ())))))) fun (s2 : ((List (Int × (Int × Int))) × ((Int × (Int × Int)) × (Bool × ((List (Int × (Int × Int))) × (Int × (Int × Unit))))))) =>
  (cond (!s2.2.2.1)
    (cond (Nat.ble ((List.length s2.1) + (List.length (s2.2.1 :: ([] : List (Int × (Int × Int)))))) 17179869184)
      (some (s2.1 ++ (s2.2.1 :: ([] : List (Int × (Int × Int))))))
      none)
    (some s2.1))))

noncomputable def e_spec_l03Put (a : (List (Int × Int × Int)) × Int × Int × Int × Bool × Unit) : Option (List (Int × Int × Int)) := r_spec_l03Put N0 a.1 a.2.1 a.2.2.1 a.2.2.2.1 a.2.2.2.2.1
def r_spec_l03Draw_L2 (k_spec_l01Below : (Option (Value × Int × Int) → (Int × Unit) → Option (Option (Value × Int × Int) × Int))) (c_spec_l03Put : ((List (Int × Int × Int)) × Int × Int × Int × Bool × Unit → Option (List (Int × Int × Int)))) (_N : Nat) (s : ((Option (Value × (Int × Int))) × ((Int × (Int × (Int × (List (Int × (Int × Int)))))) × ((Int × (Int × (Int × (List (Int × (Int × Int)))))) × (Int × Unit))))) (kc ke : ((Option (Value × (Int × Int))) × ((Int × (Int × (Int × (List (Int × (Int × Int)))))) × ((Int × (Int × (Int × (List (Int × (Int × Int)))))) × (Int × Unit)))) → Option ((Option (Value × (Int × Int))) × (Int × (Int × (Int × (List (Int × (Int × Int)))))))) : Option ((Option (Value × (Int × Int))) × (Int × (Int × (Int × (List (Int × (Int × Int))))))) :=
  (cond (decide (s.2.2.2.1 > (0 : Int)))
    (Option.bind (k_spec_l01Below s.1 (s.2.2.1.1, ())) fun (x1 : ((Option (Value × (Int × Int))) × Int)) =>
    (Option.bind (k_spec_l01Below x1.1 (s.2.2.1.1, ())) fun (x2 : ((Option (Value × (Int × Int))) × Int)) =>
    (cond (!(decide (x1.2 = x2.2)))
      (Option.bind (k_spec_l01Below x2.1 ((6 : Int), ())) fun (x3 : ((Option (Value × (Int × Int))) × Int)) =>
      (Option.bind (c_spec_l03Put (s.2.2.1.2.2.2, (x1.2, (x2.2, ((wr ((1 : Int) + x3.2)), (false, ())))))) fun (x4 : (List (Int × (Int × Int)))) =>
      (kc (x3.1, (s.2.1, ((s.2.2.1.1, (s.2.2.1.2.1, (s.2.2.1.2.2.1, x4))), ((wr (s.2.2.2.1 - (1 : Int))), ())))))))
      (kc (x2.1, (s.2.1, (s.2.2.1, ((wr (s.2.2.2.1 - (1 : Int))), ()))))))))
    (ke (s.1, (s.2.1, (s.2.2.1, (s.2.2.2.1, ()))))))
def r_spec_l03Draw_L0 (k_spec_l01Below : (Option (Value × Int × Int) → (Int × Unit) → Option (Option (Value × Int × Int) × Int))) (c_spec_l03Put : ((List (Int × Int × Int)) × Int × Int × Int × Bool × Unit → Option (List (Int × Int × Int)))) (_N : Nat) (s : ((Option (Value × (Int × Int))) × ((Int × (Int × (Int × (List (Int × (Int × Int)))))) × ((Int × (Int × (Int × (List (Int × (Int × Int)))))) × (Int × Unit))))) (kc ke : ((Option (Value × (Int × Int))) × ((Int × (Int × (Int × (List (Int × (Int × Int)))))) × ((Int × (Int × (Int × (List (Int × (Int × Int)))))) × (Int × Unit)))) → Option ((Option (Value × (Int × Int))) × (Int × (Int × (Int × (List (Int × (Int × Int)))))))) : Option ((Option (Value × (Int × Int))) × (Int × (Int × (Int × (List (Int × (Int × Int))))))) :=
  (cond (decide (s.2.2.2.1 < s.2.2.1.1))
    (Option.bind (k_spec_l01Below s.1 (s.2.2.2.1, ())) fun (x1 : ((Option (Value × (Int × Int))) × Int)) =>
    (Option.bind (k_spec_l01Below x1.1 ((6 : Int), ())) fun (x2 : ((Option (Value × (Int × Int))) × Int)) =>
    (Option.bind (c_spec_l03Put (s.2.2.1.2.2.2, (x1.2, (s.2.2.2.1, ((wr ((1 : Int) + x2.2)), (false, ())))))) fun (x3 : (List (Int × (Int × Int)))) =>
    (kc (x2.1, (s.2.1, ((s.2.2.1.1, (s.2.2.1.2.1, (s.2.2.1.2.2.1, x3))), ((wr (s.2.2.2.1 + (1 : Int))), ()))))))))
    (ke (s.1, (s.2.1, (s.2.2.1, (s.2.2.2.1, ()))))))
def r_spec_l03Draw (k_spec_l01Below : (Option (Value × Int × Int) → (Int × Unit) → Option (Option (Value × Int × Int) × Int))) (c_spec_l03Put : ((List (Int × Int × Int)) × Int × Int × Int × Bool × Unit → Option (List (Int × Int × Int)))) (N : Nat) (a0 : (Option (Value × (Int × Int)))) (a1 : Int) : Option ((Option (Value × (Int × Int))) × (Int × (Int × (Int × (List (Int × (Int × Int))))))) :=
  (Option.bind (k_spec_l01Below a0 ((wr (a1 - (1 : Int))), ())) fun (x1 : ((Option (Value × (Int × Int))) × Int)) =>
  (Option.bind (k_spec_l01Below x1.1 ((3 : Int), ())) fun (x2 : ((Option (Value × (Int × Int))) × Int)) =>
  (cond (decide ((wr ((2 : Int) + x1.2)) > (2 : Int)))
    (Option.bind (k_spec_l01Below x2.1 ((wr ((wr ((2 : Int) + x1.2)) - (1 : Int))), ())) fun (x3 : ((Option (Value × (Int × Int))) × Int)) =>
    (iterK (r_spec_l03Draw_L0 k_spec_l01Below c_spec_l03Put N) N (x3.1, (((0 : Int), ((0 : Int), ((0 : Int), ([] : List (Int × (Int × Int)))))), (((wr ((2 : Int) + x1.2)), ((wr ((2 : Int) + x3.2)), ((wr ((1 : Int) + x2.2)), ([] : List (Int × (Int × Int)))))), ((1 : Int), ())))) fun (s4 : ((Option (Value × (Int × Int))) × ((Int × (Int × (Int × (List (Int × (Int × Int)))))) × ((Int × (Int × (Int × (List (Int × (Int × Int)))))) × (Int × Unit))))) =>
    (Option.bind (k_spec_l01Below s4.1 ((4 : Int), ())) fun (x5 : ((Option (Value × (Int × Int))) × Int)) =>
    (iterK (r_spec_l03Draw_L2 k_spec_l01Below c_spec_l03Put N) N (x5.1, (s4.2.1, (s4.2.2.1, (x5.2, ())))) fun (s6 : ((Option (Value × (Int × Int))) × ((Int × (Int × (Int × (List (Int × (Int × Int)))))) × ((Int × (Int × (Int × (List (Int × (Int × Int)))))) × (Int × Unit))))) =>
    (some (s6.1, s6.2.2.1))))))
    (iterK (r_spec_l03Draw_L0 k_spec_l01Below c_spec_l03Put N) N (x2.1, (((0 : Int), ((0 : Int), ((0 : Int), ([] : List (Int × (Int × Int)))))), (((wr ((2 : Int) + x1.2)), ((2 : Int), ((wr ((1 : Int) + x2.2)), ([] : List (Int × (Int × Int)))))), ((1 : Int), ())))) fun (s7 : ((Option (Value × (Int × Int))) × ((Int × (Int × (Int × (List (Int × (Int × Int)))))) × ((Int × (Int × (Int × (List (Int × (Int × Int)))))) × (Int × Unit))))) =>
    (Option.bind (k_spec_l01Below s7.1 ((4 : Int), ())) fun (x8 : ((Option (Value × (Int × Int))) × Int)) =>
    (iterK (r_spec_l03Draw_L2 k_spec_l01Below c_spec_l03Put N) N (x8.1, (s7.2.1, (s7.2.2.1, (x8.2, ())))) fun (s9 : ((Option (Value × (Int × Int))) × ((Int × (Int × (Int × (List (Int × (Int × Int)))))) × ((Int × (Int × (Int × (List (Int × (Int × Int)))))) × (Int × Unit))))) =>
    (some (s9.1, s9.2.2.1))))))))

noncomputable def e_spec_l03Draw (A : Option (Nat × Obj)) (y : Option (Value × Int × Int)) (a : Int × Unit) : Option (Option (Value × Int × Int) × (Int × Int × Int × List (Int × Int × Int))) := r_spec_l03Draw (e_spec_l01Below A) e_spec_l03Put N0 y a.1
def r_spec_MakeSmall_L0 (_c_spec_l01New : (Value × Unit → Option (Option (Value × Int × Int)))) (_k_spec_l03Draw : (Option (Value × Int × Int) → (Int × Unit) → Option (Option (Value × Int × Int) × (Int × Int × Int × List (Int × Int × Int))))) (k_spec_l01Below : (Option (Value × Int × Int) → (Int × Unit) → Option (Option (Value × Int × Int) × Int))) (_N : Nat) (s : ((Int × (Int × (Int × (List (Int × (Int × Int)))))) × ((Option (Value × (Int × Int))) × ((Int × (Int × (Int × (List (Int × (Int × Int)))))) × (Int × (Int × Unit)))))) (kc ke : ((Int × (Int × (Int × (List (Int × (Int × Int)))))) × ((Option (Value × (Int × Int))) × ((Int × (Int × (Int × (List (Int × (Int × Int)))))) × (Int × (Int × Unit))))) → Option (Int × (Int × (Int × (List (Int × (Int × Int))))))) : Option (Int × (Int × (Int × (List (Int × (Int × Int)))))) :=
  (cond (decide (s.2.2.2.2.1 < s.2.2.2.1))
    (Option.bind (k_spec_l01Below s.2.1 ((4 : Int), ())) fun (x1 : ((Option (Value × (Int × Int))) × Int)) =>
    (Option.bind (getI s.2.2.1.2.2.2 s.2.2.2.2.1) fun (x2 : (Int × (Int × Int))) =>
    (kc (s.1, (x1.1, ((s.2.2.1.1, (s.2.2.1.2.1, (s.2.2.1.2.2.1, (List.set s.2.2.1.2.2.2 (Int.toNat s.2.2.2.2.1) (x2.1, (x2.2.1, (wr ((1 : Int) + x1.2)))))))), (s.2.2.2.1, ((wr (s.2.2.2.2.1 + (1 : Int))), ()))))))))
    (ke (s.1, (s.2.1, (s.2.2.1, (s.2.2.2.1, (s.2.2.2.2.1, ())))))))
def r_spec_MakeSmall (c_spec_l01New : (Value × Unit → Option (Option (Value × Int × Int)))) (k_spec_l03Draw : (Option (Value × Int × Int) → (Int × Unit) → Option (Option (Value × Int × Int) × (Int × Int × Int × List (Int × Int × Int))))) (k_spec_l01Below : (Option (Value × Int × Int) → (Int × Unit) → Option (Option (Value × Int × Int) × Int))) (N : Nat) (a0 : Value) : Option (Int × (Int × (Int × (List (Int × (Int × Int)))))) :=
  (Option.bind (c_spec_l01New (a0, ())) fun (x1 : (Option (Value × (Int × Int)))) =>
  (Option.bind (k_spec_l03Draw x1 ((4 : Int), ())) fun (x2 : ((Option (Value × (Int × Int))) × (Int × (Int × (Int × (List (Int × (Int × Int)))))))) =>
  (iterK (r_spec_MakeSmall_L0 c_spec_l01New k_spec_l03Draw k_spec_l01Below N) N (((0 : Int), ((0 : Int), ((0 : Int), ([] : List (Int × (Int × Int)))))), (x2.1, (x2.2, ((((List.length x2.2.2.2.2) : Nat) : Int), ((0 : Int), ()))))) fun (s3 : ((Int × (Int × (Int × (List (Int × (Int × Int)))))) × ((Option (Value × (Int × Int))) × ((Int × (Int × (Int × (List (Int × (Int × Int)))))) × (Int × (Int × Unit)))))) =>
  (some s3.2.2.1))))

noncomputable def e_spec_MakeSmall (A : Option (Nat × Obj)) (a : Value × Unit) : Option (Int × Int × Int × List (Int × Int × Int)) := r_spec_MakeSmall (e_spec_l01New A) (e_spec_l03Draw A) (e_spec_l01Below A) N0 a.1
def r_slices_Index_bool_L0 (_N : Nat) (s : ((List Bool) × (Bool × (Int × (Int × Unit))))) (kc ke : ((List Bool) × (Bool × (Int × (Int × Unit)))) → Option Int) : Option Int :=
  (cond (decide (s.2.2.2.1 < s.2.2.1))
    (Option.bind (getI s.1 s.2.2.2.1) fun (x1 : Bool) =>
    (cond (beqB s.2.1 x1)
      (some s.2.2.2.1)
      (kc (s.1, (s.2.1, (s.2.2.1, ((wr (s.2.2.2.1 + (1 : Int))), ())))))))
    (ke (s.1, (s.2.1, (s.2.2.1, (s.2.2.2.1, ()))))))
def r_slices_Index_bool (N : Nat) (a0 : (List Bool)) (a1 : Bool) : Option Int :=
  (iterK (r_slices_Index_bool_L0 N) N (a0, (a1, ((((List.length a0) : Nat) : Int), ((0 : Int), ())))) fun (_s1 : ((List Bool) × (Bool × (Int × (Int × Unit))))) =>
  (some (-(1 : Int))))

noncomputable def e_slices_Index_bool (a : (List Bool) × Bool × Unit) : Option Int := r_slices_Index_bool N0 a.1 a.2.1
def r_slices_Contains_bool (c_slices_Index_bool : ((List Bool) × Bool × Unit → Option Int)) (_N : Nat) (a0 : (List Bool)) (a1 : Bool) : Option Bool :=
  (Option.bind (c_slices_Index_bool (a0, (a1, ()))) fun (x1 : Int) =>
  (some (decide (x1 ≥ (0 : Int)))))

noncomputable def e_slices_Contains_bool (a : (List Bool) × Bool × Unit) : Option Bool := r_slices_Contains_bool e_slices_Index_bool N0 a.1 a.2.1
def r_cmp_isNaN_int (_N : Nat) (a0 : Int) : Option Bool :=
  (some (!(decide (a0 = a0))))

noncomputable def e_cmp_isNaN_int (a : Int × Unit) : Option Bool := r_cmp_isNaN_int N0 a.1
def r_cmp_Compare_int (c_cmp_isNaN_int : (Int × Unit → Option Bool)) (_N : Nat) (a0 : Int) (a1 : Int) : Option Int :=
  (Option.bind (c_cmp_isNaN_int (a0, ())) fun (x1 : Bool) =>
  (Option.bind (c_cmp_isNaN_int (a1, ())) fun (x2 : Bool) =>
  (cond x1
    (cond x2
      (some (0 : Int))
      (some (-(1 : Int))))
    (cond x2
      (some (1 : Int))
      (cond (decide (a0 < a1))
        (some (-(1 : Int)))
        (cond (decide (a0 > a1))
          (some (1 : Int))
          (some (0 : Int))))))))

noncomputable def e_cmp_Compare_int (a : Int × Int × Unit) : Option Int := r_cmp_Compare_int e_cmp_isNaN_int N0 a.1 a.2.1
def r_cmp_Or_int_L0 (_N : Nat) (s : (Int × ((List Int) × (Int × (Int × Unit))))) (kc ke : (Int × ((List Int) × (Int × (Int × Unit)))) → Option Int) : Option Int :=
  (cond (decide (s.2.2.2.1 < s.2.2.1))
    (Option.bind (getI s.2.1 s.2.2.2.1) fun (x1 : Int) =>
    (cond (!(decide (x1 = s.1)))
      (some x1)
      (kc (s.1, (s.2.1, (s.2.2.1, ((wr (s.2.2.2.1 + (1 : Int))), ())))))))
    (ke (s.1, (s.2.1, (s.2.2.1, (s.2.2.2.1, ()))))))
def r_cmp_Or_int (N : Nat) (a0 : (List Int)) : Option Int :=
  (iterK (r_cmp_Or_int_L0 N) N ((0 : Int), (a0, ((((List.length a0) : Nat) : Int), ((0 : Int), ())))) fun (s1 : (Int × ((List Int) × (Int × (Int × Unit))))) =>
  (some s1.1))

noncomputable def e_cmp_Or_int (a : (List Int) × Unit) : Option Int := r_cmp_Or_int N0 a.1
def r_impl_byEnds (c_cmp_Compare_int : (Int × Int × Unit → Option Int)) (c_cmp_Or_int : ((List Int) × Unit → Option Int)) (_N : Nat) (a0 : (Int × (Int × Int))) (a1 : (Int × (Int × Int))) : Option Int :=
  (Option.bind (c_cmp_Compare_int (a0.1, (a1.1, ()))) fun (x1 : Int) =>
  (Option.bind (c_cmp_Compare_int (a0.2.1, (a1.2.1, ()))) fun (x2 : Int) =>
  (Option.bind (c_cmp_Or_int ((x1 :: (x2 :: ([] : List Int))), ())) fun (x3 : Int) =>
  (some x3))))

noncomputable def e_impl_byEnds (a : (Int × Int × Int) × (Int × Int × Int) × Unit) : Option Int := r_impl_byEnds e_cmp_Compare_int e_cmp_Or_int N0 a.1 a.2.1
def r_impl_NetOk_L4 (_c_slices_Contains_bool : ((List Bool) × Bool × Unit → Option Bool)) (_c_impl_byEnds : ((Int × Int × Int) × (Int × Int × Int) × Unit → Option Int)) (_N : Nat) (s : ((Int × (Int × (Int × (List (Int × (Int × Int)))))) × ((List Bool) × (Int × (Int × ((List (Int × (Int × Int))) × (Int × (Int × Unit)))))))) (kc ke : ((Int × (Int × (Int × (List (Int × (Int × Int)))))) × ((List Bool) × (Int × (Int × ((List (Int × (Int × Int))) × (Int × (Int × Unit))))))) → Option Bool) : Option Bool :=
  (cond (decide (s.2.2.2.2.2.2.1 < s.2.2.2.2.2.1))
    (Option.bind (getI s.2.2.2.2.1 s.2.2.2.2.2.2.1) fun (x1 : (Int × (Int × Int))) =>
    (Option.bind (getI s.2.1 x1.1) fun (x2 : Bool) =>
    (cond x2
      (Option.bind (getI s.2.1 x1.1) fun (_x3 : Bool) =>
      (Option.bind (getI (List.set s.2.1 (Int.toNat x1.1) true) x1.2.1) fun (_x4 : Bool) =>
      (kc (s.1, ((List.set (List.set s.2.1 (Int.toNat x1.1) true) (Int.toNat x1.2.1) true), (s.2.2.1, (s.2.2.2.1, (s.2.2.2.2.1, (s.2.2.2.2.2.1, ((wr (s.2.2.2.2.2.2.1 + (1 : Int))), ()))))))))))
      (Option.bind (getI s.2.1 x1.2.1) fun (x5 : Bool) =>
      (cond x5
        (Option.bind (getI s.2.1 x1.1) fun (_x6 : Bool) =>
        (Option.bind (getI (List.set s.2.1 (Int.toNat x1.1) true) x1.2.1) fun (_x7 : Bool) =>
        (kc (s.1, ((List.set (List.set s.2.1 (Int.toNat x1.1) true) (Int.toNat x1.2.1) true), (s.2.2.1, (s.2.2.2.1, (s.2.2.2.2.1, (s.2.2.2.2.2.1, ((wr (s.2.2.2.2.2.2.1 + (1 : Int))), ()))))))))))
        (kc (s.1, (s.2.1, (s.2.2.1, (s.2.2.2.1, (s.2.2.2.2.1, (s.2.2.2.2.2.1, ((wr (s.2.2.2.2.2.2.1 + (1 : Int))), ())))))))))))))
    (ke (s.1, (s.2.1, (s.2.2.1, (s.2.2.2.1, (s.2.2.2.2.1, (s.2.2.2.2.2.1, (s.2.2.2.2.2.2.1, ())))))))))
def r_impl_NetOk_L2 (c_slices_Contains_bool : ((List Bool) × Bool × Unit → Option Bool)) (c_impl_byEnds : ((Int × Int × Int) × (Int × Int × Int) × Unit → Option Int)) (N : Nat) (s : ((Int × (Int × (Int × (List (Int × (Int × Int)))))) × ((List Bool) × (Int × (Int × Unit))))) (kc ke : ((Int × (Int × (Int × (List (Int × (Int × Int)))))) × ((List Bool) × (Int × (Int × Unit)))) → Option Bool) : Option Bool :=
  (cond (decide (s.2.2.2.1 < s.2.2.1))
    (iterK (r_impl_NetOk_L4 c_slices_Contains_bool c_impl_byEnds N) N (s.1, (s.2.1, (s.2.2.1, (s.2.2.2.1, (s.1.2.2.2, ((((List.length s.1.2.2.2) : Nat) : Int), ((0 : Int), ()))))))) fun (s1 : ((Int × (Int × (Int × (List (Int × (Int × Int)))))) × ((List Bool) × (Int × (Int × ((List (Int × (Int × Int))) × (Int × (Int × Unit)))))))) =>
    (kc (s1.1, (s1.2.1, (s1.2.2.1, ((wr (s1.2.2.2.1 + (1 : Int))), ()))))))
    (ke (s.1, (s.2.1, (s.2.2.1, (s.2.2.2.1, ()))))))
def r_impl_NetOk_L0 (_c_slices_Contains_bool : ((List Bool) × Bool × Unit → Option Bool)) (c_impl_byEnds : ((Int × Int × Int) × (Int × Int × Int) × Unit → Option Int)) (_N : Nat) (s : ((Int × (Int × (Int × (List (Int × (Int × Int)))))) × ((List (Int × (Int × Int))) × (Int × (Int × Unit))))) (kc ke : ((Int × (Int × (Int × (List (Int × (Int × Int)))))) × ((List (Int × (Int × Int))) × (Int × (Int × Unit)))) → Option Bool) : Option Bool :=
  (cond (decide (s.2.2.2.1 < s.2.2.1))
    (Option.bind (getI s.2.1 s.2.2.2.1) fun (x1 : (Int × (Int × Int))) =>
    (cond (decide (x1.1 < (0 : Int)))
      (some false)
      (cond (decide (x1.1 ≥ x1.2.1))
        (some false)
        (cond (decide (x1.2.1 ≥ s.1.1))
          (some false)
          (cond (decide (x1.2.2 < (1 : Int)))
            (some false)
            (cond (decide (x1.2.2 > (200 : Int)))
              (some false)
              (cond (decide (s.2.2.2.1 > (0 : Int)))
                (Option.bind (getI s.1.2.2.2 (wr (s.2.2.2.1 - (1 : Int)))) fun (x2 : (Int × (Int × Int))) =>
                (Option.bind (c_impl_byEnds (x2, (x1, ()))) fun (x3 : Int) =>
                (cond (decide (x3 ≥ (0 : Int)))
                  (some false)
                  (kc (s.1, (s.2.1, (s.2.2.1, ((wr (s.2.2.2.1 + (1 : Int))), ()))))))))
                (kc (s.1, (s.2.1, (s.2.2.1, ((wr (s.2.2.2.1 + (1 : Int))), ()))))))))))))
    (ke (s.1, (s.2.1, (s.2.2.1, (s.2.2.2.1, ()))))))
def r_impl_NetOk (c_slices_Contains_bool : ((List Bool) × Bool × Unit → Option Bool)) (c_impl_byEnds : ((Int × Int × Int) × (Int × Int × Int) × Unit → Option Int)) (N : Nat) (a0 : (Int × (Int × (Int × (List (Int × (Int × Int))))))) : Option Bool :=
  (cond (decide (a0.1 < (1 : Int)))
    (some false)
    (cond (decide (a0.1 > (5 : Int)))
      (some false)
      (cond (decide (a0.2.1 < (1 : Int)))
        (some false)
        (cond (decide (a0.2.1 > a0.1))
          (some false)
          (cond (decide (a0.2.2.1 < (1 : Int)))
            (some false)
            (cond (decide (a0.2.2.1 > (1000 : Int)))
              (some false)
              (iterK (r_impl_NetOk_L0 c_slices_Contains_bool c_impl_byEnds N) N (a0, (a0.2.2.2, ((((List.length a0.2.2.2) : Nat) : Int), ((0 : Int), ())))) fun (s1 : ((Int × (Int × (Int × (List (Int × (Int × Int)))))) × ((List (Int × (Int × Int))) × (Int × (Int × Unit))))) =>
              (cond (decide ((0 : Int) ≤ s1.1.1))
                (cond (Nat.ble (Int.toNat s1.1.1) 17179869184)
                  (Option.bind (getI (List.replicate (Int.toNat s1.1.1) false) (0 : Int)) fun (_x2 : Bool) =>
                  (iterK (r_impl_NetOk_L2 c_slices_Contains_bool c_impl_byEnds N) N (s1.1, ((List.set (List.replicate (Int.toNat s1.1.1) false) (Int.toNat (0 : Int)) true), (s1.1.1, ((0 : Int), ())))) fun (s3 : ((Int × (Int × (Int × (List (Int × (Int × Int)))))) × ((List Bool) × (Int × (Int × Unit))))) =>
                  (Option.bind (c_slices_Contains_bool (s3.2.1, (false, ()))) fun (x4 : Bool) =>
                  (some (!x4)))))
                  none)
                none))))))))

noncomputable def e_impl_NetOk (a : (Int × Int × Int × List (Int × Int × Int)) × Unit) : Option Bool := r_impl_NetOk e_slices_Contains_bool e_impl_byEnds N0 a.1
def r_impl_WeightBetween_L0 (_N : Nat) (s : (Int × (Int × ((List (Int × (Int × Int))) × (Int × (Int × Unit)))))) (kc ke : (Int × (Int × ((List (Int × (Int × Int))) × (Int × (Int × Unit))))) → Option Int) : Option Int :=
  (cond (decide (s.2.2.2.2.1 < s.2.2.2.1))
    (Option.bind (getI s.2.2.1 s.2.2.2.2.1) fun (x1 : (Int × (Int × Int))) =>
    (cond (!(decide (s.1 = s.2.1)))
      (cond (decide (x1.1 = s.1))
        (cond (decide (x1.2.1 = s.2.1))
          (some x1.2.2)
          (cond (decide (x1.1 = s.2.1))
            (cond (decide (x1.2.1 = s.1))
              (some x1.2.2)
              (kc (s.1, (s.2.1, (s.2.2.1, (s.2.2.2.1, ((wr (s.2.2.2.2.1 + (1 : Int))), ())))))))
            (kc (s.1, (s.2.1, (s.2.2.1, (s.2.2.2.1, ((wr (s.2.2.2.2.1 + (1 : Int))), ()))))))))
        (cond (decide (x1.1 = s.2.1))
          (cond (decide (x1.2.1 = s.1))
            (some x1.2.2)
            (kc (s.1, (s.2.1, (s.2.2.1, (s.2.2.2.1, ((wr (s.2.2.2.2.1 + (1 : Int))), ())))))))
          (kc (s.1, (s.2.1, (s.2.2.1, (s.2.2.2.1, ((wr (s.2.2.2.2.1 + (1 : Int))), ()))))))))
      (kc (s.1, (s.2.1, (s.2.2.1, (s.2.2.2.1, ((wr (s.2.2.2.2.1 + (1 : Int))), ()))))))))
    (ke (s.1, (s.2.1, (s.2.2.1, (s.2.2.2.1, (s.2.2.2.2.1, ())))))))
def r_impl_WeightBetween (N : Nat) (a0 : (Int × (Int × (Int × (List (Int × (Int × Int))))))) (a1 : Int) (a2 : Int) : Option Int :=
  (iterK (r_impl_WeightBetween_L0 N) N (a1, (a2, (a0.2.2.2, ((((List.length a0.2.2.2) : Nat) : Int), ((0 : Int), ()))))) fun (_s1 : (Int × (Int × ((List (Int × (Int × Int))) × (Int × (Int × Unit)))))) =>
  (some (0 : Int)))

noncomputable def e_impl_WeightBetween (a : (Int × Int × Int × List (Int × Int × Int)) × Int × Int × Unit) : Option Int := r_impl_WeightBetween N0 a.1 a.2.1 a.2.2.1
def r_impl_table_L2 (c_impl_WeightBetween : ((Int × Int × Int × List (Int × Int × Int)) × Int × Int × Unit → Option Int)) (_N : Nat) (s : ((Int × (Int × (Int × (List (Int × (Int × Int)))))) × ((List (List Int)) × (Int × (Int × (Int × (Int × (Int × Unit)))))))) (kc ke : ((Int × (Int × (Int × (List (Int × (Int × Int)))))) × ((List (List Int)) × (Int × (Int × (Int × (Int × (Int × Unit))))))) → Option (List (List Int))) : Option (List (List Int)) :=
  (cond (decide (s.2.2.2.2.2.2.1 < s.2.2.2.2.2.1))
    (Option.bind (getI s.2.1 s.2.2.1) fun (x1 : (List Int)) =>
    (Option.bind (c_impl_WeightBetween (s.1, (s.2.2.1, (s.2.2.2.2.2.2.1, ())))) fun (x2 : Int) =>
    (Option.bind (getI x1 s.2.2.2.2.2.2.1) fun (_x3 : Int) =>
    (kc (s.1, ((List.set s.2.1 (Int.toNat s.2.2.1) (List.set x1 (Int.toNat s.2.2.2.2.2.2.1) x2)), (s.2.2.1, (s.2.2.2.1, (s.2.2.2.2.1, (s.2.2.2.2.2.1, ((wr (s.2.2.2.2.2.2.1 + (1 : Int))), ())))))))))))
    (ke (s.1, (s.2.1, (s.2.2.1, (s.2.2.2.1, (s.2.2.2.2.1, (s.2.2.2.2.2.1, (s.2.2.2.2.2.2.1, ())))))))))
def r_impl_table_L0 (c_impl_WeightBetween : ((Int × Int × Int × List (Int × Int × Int)) × Int × Int × Unit → Option Int)) (N : Nat) (s : ((Int × (Int × (Int × (List (Int × (Int × Int)))))) × ((List (List Int)) × (Int × (Int × Unit))))) (kc ke : ((Int × (Int × (Int × (List (Int × (Int × Int)))))) × ((List (List Int)) × (Int × (Int × Unit)))) → Option (List (List Int))) : Option (List (List Int)) :=
  (cond (decide (s.2.2.2.1 < s.2.2.1))
    (cond (decide ((0 : Int) ≤ s.1.1))
      (cond (Nat.ble (Int.toNat s.1.1) 17179869184)
        (Option.bind (getI s.2.1 s.2.2.2.1) fun (_x1 : (List Int)) =>
        (Option.bind (getI (List.set s.2.1 (Int.toNat s.2.2.2.1) (List.replicate (Int.toNat s.1.1) (0 : Int))) s.2.2.2.1) fun (x2 : (List Int)) =>
        (iterK (r_impl_table_L2 c_impl_WeightBetween N) N (s.1, ((List.set s.2.1 (Int.toNat s.2.2.2.1) (List.replicate (Int.toNat s.1.1) (0 : Int))), (s.2.2.2.1, (s.2.2.1, (s.2.2.2.1, ((((List.length x2) : Nat) : Int), ((0 : Int), ()))))))) fun (s3 : ((Int × (Int × (Int × (List (Int × (Int × Int)))))) × ((List (List Int)) × (Int × (Int × (Int × (Int × (Int × Unit)))))))) =>
        (kc (s3.1, (s3.2.1, (s3.2.2.2.1, ((wr (s3.2.2.2.2.1 + (1 : Int))), ()))))))))
        none)
      none)
    (ke (s.1, (s.2.1, (s.2.2.1, (s.2.2.2.1, ()))))))
def r_impl_table (c_impl_WeightBetween : ((Int × Int × Int × List (Int × Int × Int)) × Int × Int × Unit → Option Int)) (N : Nat) (a0 : (Int × (Int × (Int × (List (Int × (Int × Int))))))) : Option (List (List Int)) :=
  (cond (decide ((0 : Int) ≤ a0.1))
    (cond (Nat.ble (Int.toNat a0.1) 17179869184)
      (iterK (r_impl_table_L0 c_impl_WeightBetween N) N (a0, ((List.replicate (Int.toNat a0.1) ([] : List Int)), ((((List.length (List.replicate (Int.toNat a0.1) ([] : List Int))) : Nat) : Int), ((0 : Int), ())))) fun (s1 : ((Int × (Int × (Int × (List (Int × (Int × Int)))))) × ((List (List Int)) × (Int × (Int × Unit))))) =>
      (some s1.2.1))
      none)
    none)

noncomputable def e_impl_table (a : (Int × Int × Int × List (Int × Int × Int)) × Unit) : Option (List (List Int)) := r_impl_table e_impl_WeightBetween N0 a.1
def r_impl_WeightAt_L0 (_N : Nat) (s : (Int × (Int × ((List (Int × (Int × Int))) × (Int × (Int × Unit)))))) (kc ke : (Int × (Int × ((List (Int × (Int × Int))) × (Int × (Int × Unit))))) → Option Int) : Option Int :=
  (cond (decide (s.2.2.2.2.1 < s.2.2.2.1))
    (Option.bind (getI s.2.2.1 s.2.2.2.2.1) fun (x1 : (Int × (Int × Int))) =>
    (cond (decide (x1.1 = s.1))
      (kc (s.1, ((wr (s.2.1 + x1.2.2)), (s.2.2.1, (s.2.2.2.1, ((wr (s.2.2.2.2.1 + (1 : Int))), ()))))))
      (cond (decide (x1.2.1 = s.1))
        (kc (s.1, ((wr (s.2.1 + x1.2.2)), (s.2.2.1, (s.2.2.2.1, ((wr (s.2.2.2.2.1 + (1 : Int))), ()))))))
        (kc (s.1, (s.2.1, (s.2.2.1, (s.2.2.2.1, ((wr (s.2.2.2.2.1 + (1 : Int))), ())))))))))
    (ke (s.1, (s.2.1, (s.2.2.1, (s.2.2.2.1, (s.2.2.2.2.1, ())))))))
def r_impl_WeightAt (N : Nat) (a0 : (Int × (Int × (Int × (List (Int × (Int × Int))))))) (a1 : Int) : Option Int :=
  (iterK (r_impl_WeightAt_L0 N) N (a1, ((0 : Int), (a0.2.2.2, ((((List.length a0.2.2.2) : Nat) : Int), ((0 : Int), ()))))) fun (s1 : (Int × (Int × ((List (Int × (Int × Int))) × (Int × (Int × Unit)))))) =>
  (some s1.2.1))

noncomputable def e_impl_WeightAt (a : (Int × Int × Int × List (Int × Int × Int)) × Int × Unit) : Option Int := r_impl_WeightAt N0 a.1 a.2.1
def r_impl_LaplacianOf_L2 (_c_impl_NetOk : ((Int × Int × Int × List (Int × Int × Int)) × Unit → Option Bool)) (_c_impl_table : ((Int × Int × Int × List (Int × Int × Int)) × Unit → Option (List (List Int)))) (_c_impl_WeightAt : ((Int × Int × Int × List (Int × Int × Int)) × Int × Unit → Option Int)) (_N : Nat) (s : ((Int × (Int × (Int × (List (Int × (Int × Int)))))) × ((List (List Int)) × (Int × (Int × (Int × (Int × (Int × Unit)))))))) (kc ke : ((Int × (Int × (Int × (List (Int × (Int × Int)))))) × ((List (List Int)) × (Int × (Int × (Int × (Int × (Int × Unit))))))) → Option (List (List Int))) : Option (List (List Int)) :=
  (cond (decide (s.2.2.2.2.2.2.1 < s.2.2.2.2.2.1))
    (Option.bind (getI s.2.1 s.2.2.1) fun (x1 : (List Int)) =>
    (Option.bind (getI s.2.1 s.2.2.1) fun (x2 : (List Int)) =>
    (Option.bind (getI x2 s.2.2.2.2.2.2.1) fun (x3 : Int) =>
    (Option.bind (getI x1 s.2.2.2.2.2.2.1) fun (_x4 : Int) =>
    (kc (s.1, ((List.set s.2.1 (Int.toNat s.2.2.1) (List.set x1 (Int.toNat s.2.2.2.2.2.2.1) (wr ((0 : Int) - x3)))), (s.2.2.1, (s.2.2.2.1, (s.2.2.2.2.1, (s.2.2.2.2.2.1, ((wr (s.2.2.2.2.2.2.1 + (1 : Int))), ()))))))))))))
    (ke (s.1, (s.2.1, (s.2.2.1, (s.2.2.2.1, (s.2.2.2.2.1, (s.2.2.2.2.2.1, (s.2.2.2.2.2.2.1, ())))))))))
def r_impl_LaplacianOf_L0 (c_impl_NetOk : ((Int × Int × Int × List (Int × Int × Int)) × Unit → Option Bool)) (c_impl_table : ((Int × Int × Int × List (Int × Int × Int)) × Unit → Option (List (List Int)))) (c_impl_WeightAt : ((Int × Int × Int × List (Int × Int × Int)) × Int × Unit → Option Int)) (N : Nat) (s : ((Int × (Int × (Int × (List (Int × (Int × Int)))))) × ((List (List Int)) × (Int × (Int × Unit))))) (kc ke : ((Int × (Int × (Int × (List (Int × (Int × Int)))))) × ((List (List Int)) × (Int × (Int × Unit)))) → Option (List (List Int))) : Option (List (List Int)) :=
  (cond (decide (s.2.2.2.1 < s.2.2.1))
    (iterK (r_impl_LaplacianOf_L2 c_impl_NetOk c_impl_table c_impl_WeightAt N) N (s.1, (s.2.1, (s.2.2.2.1, (s.2.2.1, (s.2.2.2.1, ((((List.length s.2.1) : Nat) : Int), ((0 : Int), ()))))))) fun (s1 : ((Int × (Int × (Int × (List (Int × (Int × Int)))))) × ((List (List Int)) × (Int × (Int × (Int × (Int × (Int × Unit)))))))) =>
    (Option.bind (getI s1.2.1 s1.2.2.1) fun (x2 : (List Int)) =>
    (Option.bind (c_impl_WeightAt (s1.1, (s1.2.2.1, ()))) fun (x3 : Int) =>
    (Option.bind (getI x2 s1.2.2.1) fun (_x4 : Int) =>
    (kc (s1.1, ((List.set s1.2.1 (Int.toNat s1.2.2.1) (List.set x2 (Int.toNat s1.2.2.1) x3)), (s1.2.2.2.1, ((wr (s1.2.2.2.2.1 + (1 : Int))), ())))))))))
    (ke (s.1, (s.2.1, (s.2.2.1, (s.2.2.2.1, ()))))))
def r_impl_LaplacianOf (c_impl_NetOk : ((Int × Int × Int × List (Int × Int × Int)) × Unit → Option Bool)) (c_impl_table : ((Int × Int × Int × List (Int × Int × Int)) × Unit → Option (List (List Int)))) (c_impl_WeightAt : ((Int × Int × Int × List (Int × Int × Int)) × Int × Unit → Option Int)) (N : Nat) (a0 : (Int × (Int × (Int × (List (Int × (Int × Int))))))) : Option (List (List Int)) :=
  (Option.bind (c_impl_NetOk (a0, ())) fun (x1 : Bool) =>
  (cond (!x1)
    (some ([] : List (List Int)))
    (Option.bind (c_impl_table (a0, ())) fun (x2 : (List (List Int))) =>
    (iterK (r_impl_LaplacianOf_L0 c_impl_NetOk c_impl_table c_impl_WeightAt N) N (a0, (x2, ((((List.length x2) : Nat) : Int), ((0 : Int), ())))) fun (s3 : ((Int × (Int × (Int × (List (Int × (Int × Int)))))) × ((List (List Int)) × (Int × (Int × Unit))))) =>
    (some s3.2.1)))))

noncomputable def e_impl_LaplacianOf (a : (Int × Int × Int × List (Int × Int × Int)) × Unit) : Option (List (List Int)) := r_impl_LaplacianOf e_impl_NetOk e_impl_table e_impl_WeightAt N0 a.1
def r_impl_inner_L0 (_N : Nat) (s : ((Int × (Int × (Int × (List (Int × (Int × Int)))))) × ((List Int) × (Int × Unit)))) (kc ke : ((Int × (Int × (Int × (List (Int × (Int × Int)))))) × ((List Int) × (Int × Unit))) → Option (List Int)) : Option (List Int) :=
  (cond (decide (s.2.2.1 < s.1.1))
    (cond (Nat.ble ((List.length s.2.1) + (List.length (s.2.2.1 :: ([] : List Int)))) 17179869184)
      (kc (s.1, ((s.2.1 ++ (s.2.2.1 :: ([] : List Int))), ((wr (s.2.2.1 + (1 : Int))), ()))))
      none)
    (ke (s.1, (s.2.1, (s.2.2.1, ())))))
def r_impl_inner (N : Nat) (a0 : (Int × (Int × (Int × (List (Int × (Int × Int))))))) : Option (List Int) :=
  (iterK (r_impl_inner_L0 N) N (a0, (([] : List Int), (a0.2.1, ()))) fun (s1 : ((Int × (Int × (Int × (List (Int × (Int × Int)))))) × ((List Int) × (Int × Unit)))) =>
  (some s1.2.1))

noncomputable def e_impl_inner (a : (Int × Int × Int × List (Int × Int × Int)) × Unit) : Option (List Int) := r_impl_inner N0 a.1
noncomputable def r_slices_Clone_int (_N : Nat) (a0 : (List Int)) : Option (List Int) :=
  (cond (List.isEmpty a0)
    (agree
      (some ([] : List Int))
      (cond (Nat.ble ((List.length ([] : List Int)) + (List.length a0)) 17179869184)
        (some (([] : List Int) ++ a0))
        none))
    (cond (Nat.ble ((List.length ([] : List Int)) + (List.length a0)) 17179869184)
      (some (([] : List Int) ++ a0))
      none))

noncomputable def e_slices_Clone_int (a : (List Int) × Unit) : Option (List Int) := r_slices_Clone_int N0 a.1
noncomputable def e_slices_Delete_int (y : List Int) (a : Int × Int × Unit) : Option (List Int × List Int) := delFn y a

def r_impl_det_L0 (c_slices_Clone_int : ((List Int) × Unit → Option (List Int))) (m_slices_Delete_int : ((List Int) → (Int × Int × Unit) → Option ((List Int) × (List Int)))) (c_impl_det : ((List (List Int)) × (List Int) × (List Int) × Unit → Option Int)) (_N : Nat) (s : ((List (List Int)) × ((List Int) × ((List Int) × (Int × (Int × ((List Int) × (Int × (Int × Unit))))))))) (kc ke : ((List (List Int)) × ((List Int) × ((List Int) × (Int × (Int × ((List Int) × (Int × (Int × Unit)))))))) → Option Int) : Option Int :=
  (cond (decide (s.2.2.2.2.2.2.2.1 < s.2.2.2.2.2.2.1))
    (Option.bind (getI s.2.2.2.2.2.1 s.2.2.2.2.2.2.2.1) fun (x1 : Int) =>
    (Option.bind (getI s.2.1 (0 : Int)) fun (x2 : Int) =>
    (Option.bind (getI s.1 x2) fun (x3 : (List Int)) =>
    (Option.bind (getI x3 x1) fun (x4 : Int) =>
    (cond (!(decide (x4 = (0 : Int))))
      (cond (decide ((1 : Int) ≤ (((List.length s.2.1) : Nat) : Int)))
        (cond (decide ((((List.length s.2.1) : Nat) : Int) ≤ (((List.length s.2.1) : Nat) : Int)))
          (Option.bind (c_slices_Clone_int (s.2.2.1, ())) fun (x5 : (List Int)) =>
          (Option.bind (m_slices_Delete_int x5 (s.2.2.2.2.2.2.2.1, ((wr (s.2.2.2.2.2.2.2.1 + (1 : Int))), ()))) fun (x6 : ((List Int) × (List Int))) =>
          (Option.bind (c_impl_det (s.1, ((List.take ((Int.toNat (((List.length s.2.1) : Nat) : Int)) - (Int.toNat (1 : Int))) (List.drop (Int.toNat (1 : Int)) s.2.1)), (x6.2, ())))) fun (x7 : Int) =>
          (kc (s.1, (s.2.1, (s.2.2.1, ((wr (s.2.2.2.1 + (wr ((wr (s.2.2.2.2.1 * x4)) * x7)))), ((wr ((0 : Int) - s.2.2.2.2.1)), (s.2.2.2.2.2.1, (s.2.2.2.2.2.2.1, ((wr (s.2.2.2.2.2.2.2.1 + (1 : Int))), ()))))))))))))
          none)
        none)
      (kc (s.1, (s.2.1, (s.2.2.1, (s.2.2.2.1, ((wr ((0 : Int) - s.2.2.2.2.1)), (s.2.2.2.2.2.1, (s.2.2.2.2.2.2.1, ((wr (s.2.2.2.2.2.2.2.1 + (1 : Int))), ()))))))))))))))
    (ke (s.1, (s.2.1, (s.2.2.1, (s.2.2.2.1, (s.2.2.2.2.1, (s.2.2.2.2.2.1, (s.2.2.2.2.2.2.1, (s.2.2.2.2.2.2.2.1, ()))))))))))
def r_impl_det (c_slices_Clone_int : ((List Int) × Unit → Option (List Int))) (m_slices_Delete_int : ((List Int) → (Int × Int × Unit) → Option ((List Int) × (List Int)))) (c_impl_det : ((List (List Int)) × (List Int) × (List Int) × Unit → Option Int)) (N : Nat) (a0 : (List (List Int))) (a1 : (List Int)) (a2 : (List Int)) : Option Int :=
  (cond (decide ((((List.length a1) : Nat) : Int) = (0 : Int)))
    (some (1 : Int))
    (iterK (r_impl_det_L0 c_slices_Clone_int m_slices_Delete_int c_impl_det N) N (a0, (a1, (a2, ((0 : Int), ((1 : Int), (a2, ((((List.length a2) : Nat) : Int), ((0 : Int), ())))))))) fun (s1 : ((List (List Int)) × ((List Int) × ((List Int) × (Int × (Int × ((List Int) × (Int × (Int × Unit))))))))) =>
    (some s1.2.2.2.1)))

noncomputable def e_impl_det_n : Nat → ((List (List Int)) × (List Int) × (List Int) × Unit) → Option Int
  | 0, _ => none
  | n + 1, a => r_impl_det e_slices_Clone_int e_slices_Delete_int (e_impl_det_n n) N0 a.1 a.2.1 a.2.2.1
noncomputable def e_impl_det (a : (List (List Int)) × (List Int) × (List Int) × Unit) : Option Int := e_impl_det_n N0 a
def r_impl_response_L2 (_c_impl_LaplacianOf : ((Int × Int × Int × List (Int × Int × Int)) × Unit → Option (List (List Int)))) (_c_impl_inner : ((Int × Int × Int × List (Int × Int × Int)) × Unit → Option (List Int))) (c_impl_det : ((List (List Int)) × (List Int) × (List Int) × Unit → Option Int)) (_N : Nat) (s : ((Int × (Int × (Int × (List (Int × (Int × Int)))))) × ((List (List Int)) × ((List Int) × ((List (List Int)) × (Int × (Int × (Int × (Int × (Int × Unit)))))))))) (kc ke : ((Int × (Int × (Int × (List (Int × (Int × Int)))))) × ((List (List Int)) × ((List Int) × ((List (List Int)) × (Int × (Int × (Int × (Int × (Int × Unit))))))))) → Option ((List (List Int)) × Int)) : Option ((List (List Int)) × Int) :=
  (cond (decide (s.2.2.2.2.2.2.2.2.1 < s.2.2.2.2.2.2.2.1))
    (Option.bind (getI s.2.2.2.1 s.2.2.2.2.1) fun (x1 : (List Int)) =>
    (cond (Nat.ble ((List.length (s.2.2.2.2.1 :: ([] : List Int))) + (List.length s.2.2.1)) 17179869184)
      (cond (Nat.ble ((List.length (s.2.2.2.2.2.2.2.2.1 :: ([] : List Int))) + (List.length s.2.2.1)) 17179869184)
        (Option.bind (c_impl_det (s.2.1, (((s.2.2.2.2.1 :: ([] : List Int)) ++ s.2.2.1), (((s.2.2.2.2.2.2.2.2.1 :: ([] : List Int)) ++ s.2.2.1), ())))) fun (x2 : Int) =>
        (cond (Nat.ble ((List.length x1) + (List.length (x2 :: ([] : List Int)))) 17179869184)
          (Option.bind (getI s.2.2.2.1 s.2.2.2.2.1) fun (_x3 : (List Int)) =>
          (cond (@Go.Sx.samePath (([] : List PS) ++ ((@Go.Sx.PS.idx (Int.toNat s.2.2.2.2.1)) :: ([] : List PS))) (([] : List PS) ++ ((@Go.Sx.PS.idx (Int.toNat s.2.2.2.2.1)) :: ([] : List PS))))
            (kc (s.1, (s.2.1, (s.2.2.1, ((List.set s.2.2.2.1 (Int.toNat s.2.2.2.2.1) (x1 ++ (x2 :: ([] : List Int)))), (s.2.2.2.2.1, (s.2.2.2.2.2.1, (s.2.2.2.2.2.2.1, (s.2.2.2.2.2.2.2.1, ((wr (s.2.2.2.2.2.2.2.2.1 + (1 : Int))), ()))))))))))
            none))
          none))
        none)
      none))
    (ke (s.1, (s.2.1, (s.2.2.1, (s.2.2.2.1, (s.2.2.2.2.1, (s.2.2.2.2.2.1, (s.2.2.2.2.2.2.1, (s.2.2.2.2.2.2.2.1, (s.2.2.2.2.2.2.2.2.1, ())))))))))))
def r_impl_response_L0 (c_impl_LaplacianOf : ((Int × Int × Int × List (Int × Int × Int)) × Unit → Option (List (List Int)))) (c_impl_inner : ((Int × Int × Int × List (Int × Int × Int)) × Unit → Option (List Int))) (c_impl_det : ((List (List Int)) × (List Int) × (List Int) × Unit → Option Int)) (N : Nat) (s : ((Int × (Int × (Int × (List (Int × (Int × Int)))))) × ((List (List Int)) × ((List Int) × ((List (List Int)) × (Int × (Int × Unit))))))) (kc ke : ((Int × (Int × (Int × (List (Int × (Int × Int)))))) × ((List (List Int)) × ((List Int) × ((List (List Int)) × (Int × (Int × Unit)))))) → Option ((List (List Int)) × Int)) : Option ((List (List Int)) × Int) :=
  (cond (decide (s.2.2.2.2.2.1 < s.2.2.2.2.1))
    (iterK (r_impl_response_L2 c_impl_LaplacianOf c_impl_inner c_impl_det N) N (s.1, (s.2.1, (s.2.2.1, (s.2.2.2.1, (s.2.2.2.2.2.1, (s.2.2.2.2.1, (s.2.2.2.2.2.1, ((((List.length s.2.2.2.1) : Nat) : Int), ((0 : Int), ()))))))))) fun (s1 : ((Int × (Int × (Int × (List (Int × (Int × Int)))))) × ((List (List Int)) × ((List Int) × ((List (List Int)) × (Int × (Int × (Int × (Int × (Int × Unit)))))))))) =>
    (kc (s1.1, (s1.2.1, (s1.2.2.1, (s1.2.2.2.1, (s1.2.2.2.2.2.1, ((wr (s1.2.2.2.2.2.2.1 + (1 : Int))), ()))))))))
    (ke (s.1, (s.2.1, (s.2.2.1, (s.2.2.2.1, (s.2.2.2.2.1, (s.2.2.2.2.2.1, ()))))))))
def r_impl_response (c_impl_LaplacianOf : ((Int × Int × Int × List (Int × Int × Int)) × Unit → Option (List (List Int)))) (c_impl_inner : ((Int × Int × Int × List (Int × Int × Int)) × Unit → Option (List Int))) (c_impl_det : ((List (List Int)) × (List Int) × (List Int) × Unit → Option Int)) (N : Nat) (a0 : (Int × (Int × (Int × (List (Int × (Int × Int))))))) : Option ((List (List Int)) × Int) :=
  (Option.bind (c_impl_LaplacianOf (a0, ())) fun (x1 : (List (List Int))) =>
  (Option.bind (c_impl_inner (a0, ())) fun (x2 : (List Int)) =>
  (cond (decide ((0 : Int) ≤ a0.2.1))
    (cond (Nat.ble (Int.toNat a0.2.1) 17179869184)
      (iterK (r_impl_response_L0 c_impl_LaplacianOf c_impl_inner c_impl_det N) N (a0, (x1, (x2, ((List.replicate (Int.toNat a0.2.1) ([] : List Int)), ((((List.length (List.replicate (Int.toNat a0.2.1) ([] : List Int))) : Nat) : Int), ((0 : Int), ())))))) fun (s3 : ((Int × (Int × (Int × (List (Int × (Int × Int)))))) × ((List (List Int)) × ((List Int) × ((List (List Int)) × (Int × (Int × Unit))))))) =>
      (Option.bind (c_impl_det (s3.2.1, (s3.2.2.1, (s3.2.2.1, ())))) fun (x4 : Int) =>
      (some (s3.2.2.2.1, (wr (s3.1.2.2.1 * x4))))))
      none)
    none)))

noncomputable def e_impl_response (a : (Int × Int × Int × List (Int × Int × Int)) × Unit) : Option ((List (List Int)) × Int) := r_impl_response e_impl_LaplacianOf e_impl_inner e_impl_det N0 a.1
def r_impl_size (_N : Nat) (a0 : Int) : Option Int :=
  (cond (decide (a0 < (0 : Int)))
    (some (Go.IntKind.wrap @Go.IntKind.u64 ((0 : Int) - (Go.IntKind.wrap @Go.IntKind.u64 a0))))
    (some (Go.IntKind.wrap @Go.IntKind.u64 a0)))

noncomputable def e_impl_size (a : Int × Unit) : Option Int := r_impl_size N0 a.1
def r_impl_common_L0 (_N : Nat) (s : (Int × (Int × Unit))) (kc ke : (Int × (Int × Unit)) → Option Int) : Option Int :=
  (cond (!(decide (s.2.1 = (0 : Int))))
    (cond (decide (s.2.1 = (0 : Int)))
      none
      (kc (s.2.1, ((Int.tmod s.1 s.2.1), ()))))
    (ke (s.1, (s.2.1, ()))))
def r_impl_common (N : Nat) (a0 : Int) (a1 : Int) : Option Int :=
  (iterK (r_impl_common_L0 N) N (a0, (a1, ())) fun (s1 : (Int × (Int × Unit))) =>
  (some s1.1))

noncomputable def e_impl_common (a : Int × Int × Unit) : Option Int := r_impl_common N0 a.1 a.2.1
def r_impl_RatioOf (c_impl_size : (Int × Unit → Option Int)) (c_impl_common : (Int × Int × Unit → Option Int)) (_N : Nat) (a0 : Int) (a1 : Int) : Option (Int × Int) :=
  (cond (decide (a1 = (0 : Int)))
    (some ((0 : Int), (0 : Int)))
    (Option.bind (c_impl_size (a0, ())) fun (x1 : Int) =>
    (Option.bind (c_impl_size (a1, ())) fun (x2 : Int) =>
    (Option.bind (c_impl_common (x1, (x2, ()))) fun (x3 : Int) =>
    (Option.bind (c_impl_size (a0, ())) fun (x4 : Int) =>
    (cond (decide (x3 = (0 : Int)))
      none
      (Option.bind (c_impl_size (a1, ())) fun (x5 : Int) =>
      (cond (decide (x3 = (0 : Int)))
        none
        (cond (decide ((Go.IntKind.wrap @Go.IntKind.u64 (Int.tdiv x4 x3)) > (1000000000000000000 : Int)))
          (some ((0 : Int), (0 : Int)))
          (cond (decide ((Go.IntKind.wrap @Go.IntKind.u64 (Int.tdiv x5 x3)) > (1000000000000000 : Int)))
            (some ((0 : Int), (0 : Int)))
            (cond (!(beqB (decide (a0 < (0 : Int))) (decide (a1 < (0 : Int)))))
              (some ((wr ((0 : Int) - (wr (Go.IntKind.wrap @Go.IntKind.u64 (Int.tdiv x4 x3))))), (wr (Go.IntKind.wrap @Go.IntKind.u64 (Int.tdiv x5 x3)))))
              (some ((wr (Go.IntKind.wrap @Go.IntKind.u64 (Int.tdiv x4 x3))), (wr (Go.IntKind.wrap @Go.IntKind.u64 (Int.tdiv x5 x3))))))))))))))))

noncomputable def e_impl_RatioOf (a : Int × Int × Unit) : Option (Int × Int) := r_impl_RatioOf e_impl_size e_impl_common N0 a.1 a.2.1
def r_impl_ResponseOf_L2 (_c_impl_NetOk : ((Int × Int × Int × List (Int × Int × Int)) × Unit → Option Bool)) (_c_impl_response : ((Int × Int × Int × List (Int × Int × Int)) × Unit → Option ((List (List Int)) × Int))) (c_impl_RatioOf : (Int × Int × Unit → Option (Int × Int))) (_N : Nat) (s : ((List (List Int)) × (Int × ((List (List (Int × Int))) × (Int × (Int × (Int × ((List Int) × (Int × (Int × Unit)))))))))) (kc ke : ((List (List Int)) × (Int × ((List (List (Int × Int))) × (Int × (Int × (Int × ((List Int) × (Int × (Int × Unit))))))))) → Option ((List (List (Int × Int))) × Bool)) : Option ((List (List (Int × Int))) × Bool) :=
  (cond (decide (s.2.2.2.2.2.2.2.2.1 < s.2.2.2.2.2.2.2.1))
    (Option.bind (getI s.2.2.2.2.2.2.1 s.2.2.2.2.2.2.2.2.1) fun (x1 : Int) =>
    (Option.bind (getI s.2.2.1 s.2.2.2.1) fun (x2 : (List (Int × Int))) =>
    (Option.bind (c_impl_RatioOf (x1, (s.2.1, ()))) fun (x3 : (Int × Int)) =>
    (cond (Nat.ble ((List.length x2) + (List.length (x3 :: ([] : List (Int × Int))))) 17179869184)
      (Option.bind (getI s.2.2.1 s.2.2.2.1) fun (_x4 : (List (Int × Int))) =>
      (cond (@Go.Sx.samePath (([] : List PS) ++ ((@Go.Sx.PS.idx (Int.toNat s.2.2.2.1)) :: ([] : List PS))) (([] : List PS) ++ ((@Go.Sx.PS.idx (Int.toNat s.2.2.2.1)) :: ([] : List PS))))
        (kc (s.1, (s.2.1, ((List.set s.2.2.1 (Int.toNat s.2.2.2.1) (x2 ++ (x3 :: ([] : List (Int × Int))))), (s.2.2.2.1, (s.2.2.2.2.1, (s.2.2.2.2.2.1, (s.2.2.2.2.2.2.1, (s.2.2.2.2.2.2.2.1, ((wr (s.2.2.2.2.2.2.2.2.1 + (1 : Int))), ()))))))))))
        none))
      none))))
    (ke (s.1, (s.2.1, (s.2.2.1, (s.2.2.2.1, (s.2.2.2.2.1, (s.2.2.2.2.2.1, (s.2.2.2.2.2.2.1, (s.2.2.2.2.2.2.2.1, (s.2.2.2.2.2.2.2.2.1, ())))))))))))
def r_impl_ResponseOf_L0 (c_impl_NetOk : ((Int × Int × Int × List (Int × Int × Int)) × Unit → Option Bool)) (c_impl_response : ((Int × Int × Int × List (Int × Int × Int)) × Unit → Option ((List (List Int)) × Int))) (c_impl_RatioOf : (Int × Int × Unit → Option (Int × Int))) (N : Nat) (s : ((List (List Int)) × (Int × ((List (List (Int × Int))) × (Int × (Int × Unit)))))) (kc ke : ((List (List Int)) × (Int × ((List (List (Int × Int))) × (Int × (Int × Unit))))) → Option ((List (List (Int × Int))) × Bool)) : Option ((List (List (Int × Int))) × Bool) :=
  (cond (decide (s.2.2.2.2.1 < s.2.2.2.1))
    (Option.bind (getI s.1 s.2.2.2.2.1) fun (x1 : (List Int)) =>
    (iterK (r_impl_ResponseOf_L2 c_impl_NetOk c_impl_response c_impl_RatioOf N) N (s.1, (s.2.1, (s.2.2.1, (s.2.2.2.2.1, (s.2.2.2.1, (s.2.2.2.2.1, (x1, ((((List.length x1) : Nat) : Int), ((0 : Int), ()))))))))) fun (s2 : ((List (List Int)) × (Int × ((List (List (Int × Int))) × (Int × (Int × (Int × ((List Int) × (Int × (Int × Unit)))))))))) =>
    (kc (s2.1, (s2.2.1, (s2.2.2.1, (s2.2.2.2.2.1, ((wr (s2.2.2.2.2.2.1 + (1 : Int))), ()))))))))
    (ke (s.1, (s.2.1, (s.2.2.1, (s.2.2.2.1, (s.2.2.2.2.1, ())))))))
def r_impl_ResponseOf (c_impl_NetOk : ((Int × Int × Int × List (Int × Int × Int)) × Unit → Option Bool)) (c_impl_response : ((Int × Int × Int × List (Int × Int × Int)) × Unit → Option ((List (List Int)) × Int))) (c_impl_RatioOf : (Int × Int × Unit → Option (Int × Int))) (N : Nat) (a0 : (Int × (Int × (Int × (List (Int × (Int × Int))))))) : Option ((List (List (Int × Int))) × Bool) :=
  (Option.bind (c_impl_NetOk (a0, ())) fun (x1 : Bool) =>
  (cond (!x1)
    (some (([] : List (List (Int × Int))), false))
    (Option.bind (c_impl_response (a0, ())) fun (x2 : ((List (List Int)) × Int)) =>
    (cond (Nat.ble (Int.toNat (((List.length x2.1) : Nat) : Int)) 17179869184)
      (iterK (r_impl_ResponseOf_L0 c_impl_NetOk c_impl_response c_impl_RatioOf N) N (x2.1, (x2.2, ((List.replicate (Int.toNat (((List.length x2.1) : Nat) : Int)) ([] : List (Int × Int))), ((((List.length x2.1) : Nat) : Int), ((0 : Int), ()))))) fun (s3 : ((List (List Int)) × (Int × ((List (List (Int × Int))) × (Int × (Int × Unit)))))) =>
      (some (s3.2.2.1, true)))
      none))))

noncomputable def e_impl_ResponseOf (a : (Int × Int × Int × List (Int × Int × Int)) × Unit) : Option ((List (List (Int × Int))) × Bool) := r_impl_ResponseOf e_impl_NetOk e_impl_response e_impl_RatioOf N0 a.1
def r_impl_isWire (_N : Nat) (a0 : (Int × (Int × (Int × (List (Int × (Int × Int))))))) (a1 : Int) : Option Bool :=
  (cond (decide (a1 ≥ (0 : Int)))
    (some (decide (a1 < (((List.length a0.2.2.2) : Nat) : Int))))
    (some false))

noncomputable def e_impl_isWire (a : (Int × Int × Int × List (Int × Int × Int)) × Int × Unit) : Option Bool := r_impl_isWire N0 a.1 a.2.1
def r_impl_isNode (_N : Nat) (a0 : (Int × (Int × (Int × (List (Int × (Int × Int))))))) (a1 : Int) : Option Bool :=
  (cond (decide (a1 ≥ (0 : Int)))
    (some (decide (a1 < a0.1)))
    (some false))

noncomputable def e_impl_isNode (a : (Int × Int × Int × List (Int × Int × Int)) × Int × Unit) : Option Bool := r_impl_isNode N0 a.1 a.2.1
def r_impl_GcdOf (c_impl_size : (Int × Unit → Option Int)) (c_impl_common : (Int × Int × Unit → Option Int)) (_N : Nat) (a0 : Int) (a1 : Int) : Option Int :=
  (cond (decide (a0 = (-(9223372036854775808 : Int))))
    (some (0 : Int))
    (cond (decide (a1 = (-(9223372036854775808 : Int))))
      (some (0 : Int))
      (Option.bind (c_impl_size (a0, ())) fun (x1 : Int) =>
      (Option.bind (c_impl_size (a1, ())) fun (x2 : Int) =>
      (Option.bind (c_impl_common (x1, (x2, ()))) fun (x3 : Int) =>
      (some (wr x3)))))))

noncomputable def e_impl_GcdOf (a : Int × Int × Unit) : Option Int := r_impl_GcdOf e_impl_size e_impl_common N0 a.1 a.2.1
def r_impl_netOf_L2 (_c_impl_NetOk : ((Int × Int × Int × List (Int × Int × Int)) × Unit → Option Bool)) (c_impl_GcdOf : (Int × Int × Unit → Option Int)) (_N : Nat) (s : ((List (List Int)) × (Bool × ((Int × (Int × (Int × (List (Int × (Int × Int)))))) × ((Int × (Int × (Int × (List (Int × (Int × Int)))))) × (Int × (Int × (Int × (Int × (Int × Unit)))))))))) (kc ke : ((List (List Int)) × (Bool × ((Int × (Int × (Int × (List (Int × (Int × Int)))))) × ((Int × (Int × (Int × (List (Int × (Int × Int)))))) × (Int × (Int × (Int × (Int × (Int × Unit))))))))) → Option ((Int × (Int × (Int × (List (Int × (Int × Int)))))) × Bool)) : Option ((Int × (Int × (Int × (List (Int × (Int × Int)))))) × Bool) :=
  (cond (decide (s.2.2.2.2.2.2.1 < (((List.length s.1) : Nat) : Int)))
    (Option.bind (getI s.1 s.2.2.2.2.2.1) fun (x1 : (List Int)) =>
    (Option.bind (getI x1 s.2.2.2.2.2.2.1) fun (x2 : Int) =>
    (cond (!(decide (x2 = (0 : Int))))
      (cond (Nat.ble ((List.length s.2.2.2.1.2.2.2) + (List.length ((s.2.2.2.2.2.1, (s.2.2.2.2.2.2.1, x2)) :: ([] : List (Int × (Int × Int)))))) 17179869184)
        (Option.bind (c_impl_GcdOf (s.2.2.2.2.1, (x2, ()))) fun (x3 : Int) =>
        (kc (s.1, (s.2.1, (s.2.2.1, ((s.2.2.2.1.1, (s.2.2.2.1.2.1, (s.2.2.2.1.2.2.1, (s.2.2.2.1.2.2.2 ++ ((s.2.2.2.2.2.1, (s.2.2.2.2.2.2.1, x2)) :: ([] : List (Int × (Int × Int)))))))), (x3, (s.2.2.2.2.2.1, ((wr (s.2.2.2.2.2.2.1 + (1 : Int))), (s.2.2.2.2.2.2.2.1, (s.2.2.2.2.2.2.2.2.1, ())))))))))))
        none)
      (kc (s.1, (s.2.1, (s.2.2.1, (s.2.2.2.1, (s.2.2.2.2.1, (s.2.2.2.2.2.1, ((wr (s.2.2.2.2.2.2.1 + (1 : Int))), (s.2.2.2.2.2.2.2.1, (s.2.2.2.2.2.2.2.2.1, ())))))))))))))
    (ke (s.1, (s.2.1, (s.2.2.1, (s.2.2.2.1, (s.2.2.2.2.1, (s.2.2.2.2.2.1, (s.2.2.2.2.2.2.1, (s.2.2.2.2.2.2.2.1, (s.2.2.2.2.2.2.2.2.1, ())))))))))))
def r_impl_netOf_L4 (_c_impl_NetOk : ((Int × Int × Int × List (Int × Int × Int)) × Unit → Option Bool)) (_c_impl_GcdOf : (Int × Int × Unit → Option Int)) (_N : Nat) (s : ((Int × (Int × (Int × (List (Int × (Int × Int)))))) × ((Int × (Int × (Int × (List (Int × (Int × Int)))))) × (Int × (Int × (Int × Unit)))))) (kc ke : ((Int × (Int × (Int × (List (Int × (Int × Int)))))) × ((Int × (Int × (Int × (List (Int × (Int × Int)))))) × (Int × (Int × (Int × Unit))))) → Option ((Int × (Int × (Int × (List (Int × (Int × Int)))))) × Bool)) : Option ((Int × (Int × (Int × (List (Int × (Int × Int)))))) × Bool) :=
  (cond (decide (s.2.2.2.2.1 < s.2.2.2.1))
    (Option.bind (getI s.2.1.2.2.2 s.2.2.2.2.1) fun (x1 : (Int × (Int × Int))) =>
    (cond (decide (s.2.2.1 = (0 : Int)))
      none
      (Option.bind (getI s.2.1.2.2.2 s.2.2.2.2.1) fun (x2 : (Int × (Int × Int))) =>
      (kc (s.1, ((s.2.1.1, (s.2.1.2.1, (s.2.1.2.2.1, (List.set s.2.1.2.2.2 (Int.toNat s.2.2.2.2.1) (x2.1, (x2.2.1, (wr (Int.tdiv x1.2.2 s.2.2.1)))))))), (s.2.2.1, (s.2.2.2.1, ((wr (s.2.2.2.2.1 + (1 : Int))), ())))))))))
    (ke (s.1, (s.2.1, (s.2.2.1, (s.2.2.2.1, (s.2.2.2.2.1, ())))))))
def r_impl_netOf_L0 (c_impl_NetOk : ((Int × Int × Int × List (Int × Int × Int)) × Unit → Option Bool)) (c_impl_GcdOf : (Int × Int × Unit → Option Int)) (N : Nat) (s : ((List (List Int)) × (Bool × ((Int × (Int × (Int × (List (Int × (Int × Int)))))) × ((Int × (Int × (Int × (List (Int × (Int × Int)))))) × (Int × (Int × (Int × Unit)))))))) (kc ke : ((List (List Int)) × (Bool × ((Int × (Int × (Int × (List (Int × (Int × Int)))))) × ((Int × (Int × (Int × (List (Int × (Int × Int)))))) × (Int × (Int × (Int × Unit))))))) → Option ((Int × (Int × (Int × (List (Int × (Int × Int)))))) × Bool)) : Option ((Int × (Int × (Int × (List (Int × (Int × Int)))))) × Bool) :=
  (cond (decide (s.2.2.2.2.2.2.1 < s.2.2.2.2.2.1))
    (iterK (r_impl_netOf_L2 c_impl_NetOk c_impl_GcdOf N) N (s.1, (s.2.1, (s.2.2.1, (s.2.2.2.1, (s.2.2.2.2.1, (s.2.2.2.2.2.2.1, ((wr (s.2.2.2.2.2.2.1 + (1 : Int))), (s.2.2.2.2.2.1, (s.2.2.2.2.2.2.1, ()))))))))) fun (s1 : ((List (List Int)) × (Bool × ((Int × (Int × (Int × (List (Int × (Int × Int)))))) × ((Int × (Int × (Int × (List (Int × (Int × Int)))))) × (Int × (Int × (Int × (Int × (Int × Unit)))))))))) =>
    (kc (s1.1, (s1.2.1, (s1.2.2.1, (s1.2.2.2.1, (s1.2.2.2.2.1, (s1.2.2.2.2.2.2.2.1, ((wr (s1.2.2.2.2.2.2.2.2.1 + (1 : Int))), ())))))))))
    (ke (s.1, (s.2.1, (s.2.2.1, (s.2.2.2.1, (s.2.2.2.2.1, (s.2.2.2.2.2.1, (s.2.2.2.2.2.2.1, ())))))))))
def r_impl_netOf (c_impl_NetOk : ((Int × Int × Int × List (Int × Int × Int)) × Unit → Option Bool)) (c_impl_GcdOf : (Int × Int × Unit → Option Int)) (N : Nat) (a0 : Int) (a1 : Int) (a2 : (List (List Int))) (a3 : Bool) : Option ((Int × (Int × (Int × (List (Int × (Int × Int)))))) × Bool) :=
  (iterK (r_impl_netOf_L0 c_impl_NetOk c_impl_GcdOf N) N (a2, (a3, (((0 : Int), ((0 : Int), ((0 : Int), ([] : List (Int × (Int × Int)))))), (((((List.length a2) : Nat) : Int), (a0, (a1, ([] : List (Int × (Int × Int)))))), (a1, ((((List.length a2) : Nat) : Int), ((0 : Int), ()))))))) fun (s1 : ((List (List Int)) × (Bool × ((Int × (Int × (Int × (List (Int × (Int × Int)))))) × ((Int × (Int × (Int × (List (Int × (Int × Int)))))) × (Int × (Int × (Int × Unit)))))))) =>
  (cond s1.2.1
    (cond (decide (s1.2.2.2.2.1 = (0 : Int)))
      none
      (iterK (r_impl_netOf_L4 c_impl_NetOk c_impl_GcdOf N) N (s1.2.2.1, ((s1.2.2.2.1.1, (s1.2.2.2.1.2.1, ((wr (Int.tdiv s1.2.2.2.1.2.2.1 s1.2.2.2.2.1)), s1.2.2.2.1.2.2.2))), (s1.2.2.2.2.1, ((((List.length s1.2.2.2.1.2.2.2) : Nat) : Int), ((0 : Int), ()))))) fun (s2 : ((Int × (Int × (Int × (List (Int × (Int × Int)))))) × ((Int × (Int × (Int × (List (Int × (Int × Int)))))) × (Int × (Int × (Int × Unit)))))) =>
      (Option.bind (c_impl_NetOk (s2.2.1, ())) fun (x3 : Bool) =>
      (cond (!x3)
        (some (((0 : Int), ((0 : Int), ((0 : Int), ([] : List (Int × (Int × Int)))))), false))
        (some (s2.2.1, true))))))
    (Option.bind (c_impl_NetOk (s1.2.2.2.1, ())) fun (x4 : Bool) =>
    (cond (!x4)
      (some (((0 : Int), ((0 : Int), ((0 : Int), ([] : List (Int × (Int × Int)))))), false))
      (some (s1.2.2.2.1, true))))))

noncomputable def e_impl_netOf (a : Int × Int × (List (List Int)) × Bool × Unit) : Option ((Int × Int × Int × List (Int × Int × Int)) × Bool) := r_impl_netOf e_impl_NetOk e_impl_GcdOf N0 a.1 a.2.1 a.2.2.1 a.2.2.2.1
def r_impl_PutWire (c_impl_NetOk : ((Int × Int × Int × List (Int × Int × Int)) × Unit → Option Bool)) (c_impl_isNode : ((Int × Int × Int × List (Int × Int × Int)) × Int × Unit → Option Bool)) (c_impl_table : ((Int × Int × Int × List (Int × Int × Int)) × Unit → Option (List (List Int)))) (c_impl_netOf : (Int × Int × (List (List Int)) × Bool × Unit → Option ((Int × Int × Int × List (Int × Int × Int)) × Bool))) (_N : Nat) (a0 : (Int × (Int × (Int × (List (Int × (Int × Int))))))) (a1 : Int) (a2 : Int) (a3 : Int) : Option ((Int × (Int × (Int × (List (Int × (Int × Int)))))) × Bool) :=
  (Option.bind (c_impl_NetOk (a0, ())) fun (x1 : Bool) =>
  (cond (!x1)
    (some (((0 : Int), ((0 : Int), ((0 : Int), ([] : List (Int × (Int × Int)))))), false))
    (Option.bind (c_impl_isNode (a0, (a1, ()))) fun (x2 : Bool) =>
    (cond (!x2)
      (some (((0 : Int), ((0 : Int), ((0 : Int), ([] : List (Int × (Int × Int)))))), false))
      (Option.bind (c_impl_isNode (a0, (a2, ()))) fun (x3 : Bool) =>
      (cond (!x3)
        (some (((0 : Int), ((0 : Int), ((0 : Int), ([] : List (Int × (Int × Int)))))), false))
        (cond (decide (a1 = a2))
          (some (((0 : Int), ((0 : Int), ((0 : Int), ([] : List (Int × (Int × Int)))))), false))
          (cond (decide (a3 < (0 : Int)))
            (some (((0 : Int), ((0 : Int), ((0 : Int), ([] : List (Int × (Int × Int)))))), false))
            (cond (decide (a3 > (200 : Int)))
              (some (((0 : Int), ((0 : Int), ((0 : Int), ([] : List (Int × (Int × Int)))))), false))
              (Option.bind (c_impl_table (a0, ())) fun (x4 : (List (List Int))) =>
              (Option.bind (getI x4 a1) fun (x5 : (List Int)) =>
              (Option.bind (getI x5 a2) fun (_x6 : Int) =>
              (Option.bind (getI (List.set x4 (Int.toNat a1) (List.set x5 (Int.toNat a2) a3)) a2) fun (x7 : (List Int)) =>
              (Option.bind (getI x7 a1) fun (_x8 : Int) =>
              (Option.bind (c_impl_netOf (a0.2.1, (a0.2.2.1, ((List.set (List.set x4 (Int.toNat a1) (List.set x5 (Int.toNat a2) a3)) (Int.toNat a2) (List.set x7 (Int.toNat a1) a3)), (false, ()))))) fun (x9 : ((Int × (Int × (Int × (List (Int × (Int × Int)))))) × Bool)) =>
              (some (x9.1, x9.2)))))))))))))))))

noncomputable def e_impl_PutWire (a : (Int × Int × Int × List (Int × Int × Int)) × Int × Int × Int × Unit) : Option ((Int × Int × Int × List (Int × Int × Int)) × Bool) := r_impl_PutWire e_impl_NetOk e_impl_isNode e_impl_table e_impl_netOf N0 a.1 a.2.1 a.2.2.1 a.2.2.2.1
def r_impl_ApplyFault (c_impl_NetOk : ((Int × Int × Int × List (Int × Int × Int)) × Unit → Option Bool)) (c_impl_isWire : ((Int × Int × Int × List (Int × Int × Int)) × Int × Unit → Option Bool)) (c_impl_PutWire : ((Int × Int × Int × List (Int × Int × Int)) × Int × Int × Int × Unit → Option ((Int × Int × Int × List (Int × Int × Int)) × Bool))) (_N : Nat) (a0 : (Int × (Int × (Int × (List (Int × (Int × Int))))))) (a1 : (Int × Int)) : Option ((Int × (Int × (Int × (List (Int × (Int × Int)))))) × Bool) :=
  (Option.bind (c_impl_NetOk (a0, ())) fun (x1 : Bool) =>
  (cond (!x1)
    (some (((0 : Int), ((0 : Int), ((0 : Int), ([] : List (Int × (Int × Int)))))), false))
    (Option.bind (c_impl_isWire (a0, (a1.1, ()))) fun (x2 : Bool) =>
    (cond (!x2)
      (some (((0 : Int), ((0 : Int), ((0 : Int), ([] : List (Int × (Int × Int)))))), false))
      (cond (decide (a1.2 < (0 : Int)))
        (some (((0 : Int), ((0 : Int), ((0 : Int), ([] : List (Int × (Int × Int)))))), false))
        (cond (decide (a1.2 > (12 : Int)))
          (some (((0 : Int), ((0 : Int), ((0 : Int), ([] : List (Int × (Int × Int)))))), false))
          (Option.bind (getI a0.2.2.2 a1.1) fun (x3 : (Int × (Int × Int))) =>
          (cond (decide (a1.2 = x3.2.2))
            (some (((0 : Int), ((0 : Int), ((0 : Int), ([] : List (Int × (Int × Int)))))), false))
            (Option.bind (getI a0.2.2.2 a1.1) fun (x4 : (Int × (Int × Int))) =>
            (Option.bind (c_impl_PutWire (a0, (x4.1, (x4.2.1, (a1.2, ()))))) fun (x5 : ((Int × (Int × (Int × (List (Int × (Int × Int)))))) × Bool)) =>
            (some (x5.1, x5.2))))))))))))

noncomputable def e_impl_ApplyFault (a : (Int × Int × Int × List (Int × Int × Int)) × (Int × Int) × Unit) : Option ((Int × Int × Int × List (Int × Int × Int)) × Bool) := r_impl_ApplyFault e_impl_NetOk e_impl_isWire e_impl_PutWire N0 a.1 a.2.1
def r_impl_AllFaults_L2 (_c_impl_NetOk : ((Int × Int × Int × List (Int × Int × Int)) × Unit → Option Bool)) (c_impl_ApplyFault : ((Int × Int × Int × List (Int × Int × Int)) × (Int × Int) × Unit → Option ((Int × Int × Int × List (Int × Int × Int)) × Bool))) (_N : Nat) (s : ((Int × (Int × (Int × (List (Int × (Int × Int)))))) × ((List (Int × Int)) × (Int × (Int × (Int × (Int × Unit))))))) (kc ke : ((Int × (Int × (Int × (List (Int × (Int × Int)))))) × ((List (Int × Int)) × (Int × (Int × (Int × (Int × Unit)))))) → Option (List (Int × Int))) : Option (List (Int × Int)) :=
  (cond (decide (s.2.2.2.2.2.1 < (13 : Int)))
    (Option.bind (c_impl_ApplyFault (s.1, ((s.2.2.1, s.2.2.2.2.2.1), ()))) fun (x1 : ((Int × (Int × (Int × (List (Int × (Int × Int)))))) × Bool)) =>
    (cond x1.2
      (cond (Nat.ble ((List.length s.2.1) + (List.length ((s.2.2.1, s.2.2.2.2.2.1) :: ([] : List (Int × Int))))) 17179869184)
        (kc (s.1, ((s.2.1 ++ ((s.2.2.1, s.2.2.2.2.2.1) :: ([] : List (Int × Int)))), (s.2.2.1, (s.2.2.2.1, (s.2.2.2.2.1, ((wr (s.2.2.2.2.2.1 + (1 : Int))), ())))))))
        none)
      (kc (s.1, (s.2.1, (s.2.2.1, (s.2.2.2.1, (s.2.2.2.2.1, ((wr (s.2.2.2.2.2.1 + (1 : Int))), ())))))))))
    (ke (s.1, (s.2.1, (s.2.2.1, (s.2.2.2.1, (s.2.2.2.2.1, (s.2.2.2.2.2.1, ()))))))))
def r_impl_AllFaults_L0 (c_impl_NetOk : ((Int × Int × Int × List (Int × Int × Int)) × Unit → Option Bool)) (c_impl_ApplyFault : ((Int × Int × Int × List (Int × Int × Int)) × (Int × Int) × Unit → Option ((Int × Int × Int × List (Int × Int × Int)) × Bool))) (N : Nat) (s : ((Int × (Int × (Int × (List (Int × (Int × Int)))))) × ((List (Int × Int)) × (Int × (Int × Unit))))) (kc ke : ((Int × (Int × (Int × (List (Int × (Int × Int)))))) × ((List (Int × Int)) × (Int × (Int × Unit)))) → Option (List (Int × Int))) : Option (List (Int × Int)) :=
  (cond (decide (s.2.2.2.1 < s.2.2.1))
    (iterK (r_impl_AllFaults_L2 c_impl_NetOk c_impl_ApplyFault N) N (s.1, (s.2.1, (s.2.2.2.1, (s.2.2.1, (s.2.2.2.1, ((0 : Int), ())))))) fun (s1 : ((Int × (Int × (Int × (List (Int × (Int × Int)))))) × ((List (Int × Int)) × (Int × (Int × (Int × (Int × Unit))))))) =>
    (kc (s1.1, (s1.2.1, (s1.2.2.2.1, ((wr (s1.2.2.2.2.1 + (1 : Int))), ()))))))
    (ke (s.1, (s.2.1, (s.2.2.1, (s.2.2.2.1, ()))))))
def r_impl_AllFaults (c_impl_NetOk : ((Int × Int × Int × List (Int × Int × Int)) × Unit → Option Bool)) (c_impl_ApplyFault : ((Int × Int × Int × List (Int × Int × Int)) × (Int × Int) × Unit → Option ((Int × Int × Int × List (Int × Int × Int)) × Bool))) (N : Nat) (a0 : (Int × (Int × (Int × (List (Int × (Int × Int))))))) : Option (List (Int × Int)) :=
  (Option.bind (c_impl_NetOk (a0, ())) fun (x1 : Bool) =>
  (cond (!x1)
    (some ([] : List (Int × Int)))
    (iterK (r_impl_AllFaults_L0 c_impl_NetOk c_impl_ApplyFault N) N (a0, (([] : List (Int × Int)), ((((List.length a0.2.2.2) : Nat) : Int), ((0 : Int), ())))) fun (s2 : ((Int × (Int × (Int × (List (Int × (Int × Int)))))) × ((List (Int × Int)) × (Int × (Int × Unit))))) =>
    (some s2.2.1))))

noncomputable def e_impl_AllFaults (a : (Int × Int × Int × List (Int × Int × Int)) × Unit) : Option (List (Int × Int)) := r_impl_AllFaults e_impl_NetOk e_impl_ApplyFault N0 a.1
def r_impl_after (c_impl_ApplyFault : ((Int × Int × Int × List (Int × Int × Int)) × (Int × Int) × Unit → Option ((Int × Int × Int × List (Int × Int × Int)) × Bool))) (c_impl_ResponseOf : ((Int × Int × Int × List (Int × Int × Int)) × Unit → Option ((List (List (Int × Int))) × Bool))) (_N : Nat) (a0 : (Int × (Int × (Int × (List (Int × (Int × Int))))))) (a1 : (Int × Int)) : Option (List (List (Int × Int))) :=
  (Option.bind (c_impl_ApplyFault (a0, (a1, ()))) fun (x1 : ((Int × (Int × (Int × (List (Int × (Int × Int)))))) × Bool)) =>
  (Option.bind (c_impl_ResponseOf (x1.1, ())) fun (x2 : ((List (List (Int × Int))) × Bool)) =>
  (some x2.1)))

noncomputable def e_impl_after (a : (Int × Int × Int × List (Int × Int × Int)) × (Int × Int) × Unit) : Option (List (List (Int × Int))) := r_impl_after e_impl_ApplyFault e_impl_ResponseOf N0 a.1 a.2.1
def r_slices_Equal_impl_Ratio_L0 (_N : Nat) (s : ((List (Int × Int)) × ((List (Int × Int)) × (Int × (Int × Unit))))) (kc ke : ((List (Int × Int)) × ((List (Int × Int)) × (Int × (Int × Unit)))) → Option Bool) : Option Bool :=
  (cond (decide (s.2.2.2.1 < s.2.2.1))
    (Option.bind (getI s.1 s.2.2.2.1) fun (x1 : (Int × Int)) =>
    (Option.bind (getI s.2.1 s.2.2.2.1) fun (x2 : (Int × Int)) =>
    (cond (!((intEq x1.1 x2.1) && (intEq x1.2 x2.2)))
      (some false)
      (kc (s.1, (s.2.1, (s.2.2.1, ((wr (s.2.2.2.1 + (1 : Int))), ()))))))))
    (ke (s.1, (s.2.1, (s.2.2.1, (s.2.2.2.1, ()))))))
def r_slices_Equal_impl_Ratio (N : Nat) (a0 : (List (Int × Int))) (a1 : (List (Int × Int))) : Option Bool :=
  (cond (!(decide ((((List.length a0) : Nat) : Int) = (((List.length a1) : Nat) : Int))))
    (some false)
    (iterK (r_slices_Equal_impl_Ratio_L0 N) N (a0, (a1, ((((List.length a0) : Nat) : Int), ((0 : Int), ())))) fun (_s1 : ((List (Int × Int)) × ((List (Int × Int)) × (Int × (Int × Unit))))) =>
    (some true)))

noncomputable def e_slices_Equal_impl_Ratio (a : (List (Int × Int)) × (List (Int × Int)) × Unit) : Option Bool := r_slices_Equal_impl_Ratio N0 a.1 a.2.1
def r_impl_SameResponse_1 (c_slices_Equal_impl_Ratio : ((List (Int × Int)) × (List (Int × Int)) × Unit → Option Bool)) (_N : Nat) (a0 : (List (Int × Int))) (a1 : (List (Int × Int))) : Option Bool :=
  (Option.bind (c_slices_Equal_impl_Ratio (a0, (a1, ()))) fun (x1 : Bool) =>
  (some x1))

noncomputable def e_impl_SameResponse_1 (a : (List (Int × Int)) × (List (Int × Int)) × Unit) : Option Bool := r_impl_SameResponse_1 e_slices_Equal_impl_Ratio N0 a.1 a.2.1
def r_slices_EqualFunc_Simpl_Ratio_L0 (c_impl_SameResponse_1 : ((List (Int × Int)) × (List (Int × Int)) × Unit → Option Bool)) (_N : Nat) (s : ((List (List (Int × Int))) × (Unit × ((List (List (Int × Int))) × (Int × (Int × Unit)))))) (kc ke : ((List (List (Int × Int))) × (Unit × ((List (List (Int × Int))) × (Int × (Int × Unit))))) → Option Bool) : Option Bool :=
  (cond (decide (s.2.2.2.2.1 < s.2.2.2.1))
    (Option.bind (getI s.2.2.1 s.2.2.2.2.1) fun (x1 : (List (Int × Int))) =>
    (Option.bind (getI s.1 s.2.2.2.2.1) fun (x2 : (List (Int × Int))) =>
    (Option.bind (c_impl_SameResponse_1 (x1, (x2, ()))) fun (x3 : Bool) =>
    (cond (!x3)
      (some false)
      (kc (s.1, (s.2.1, (s.2.2.1, (s.2.2.2.1, ((wr (s.2.2.2.2.1 + (1 : Int))), ()))))))))))
    (ke (s.1, (s.2.1, (s.2.2.1, (s.2.2.2.1, (s.2.2.2.2.1, ())))))))
def r_slices_EqualFunc_Simpl_Ratio (c_impl_SameResponse_1 : ((List (Int × Int)) × (List (Int × Int)) × Unit → Option Bool)) (N : Nat) (a0 : (List (List (Int × Int)))) (a1 : (List (List (Int × Int)))) (a2 : Unit) : Option Bool :=
  (cond (!(decide ((((List.length a0) : Nat) : Int) = (((List.length a1) : Nat) : Int))))
    (some false)
    (iterK (r_slices_EqualFunc_Simpl_Ratio_L0 c_impl_SameResponse_1 N) N (a1, (a2, (a0, ((((List.length a0) : Nat) : Int), ((0 : Int), ()))))) fun (_s1 : ((List (List (Int × Int))) × (Unit × ((List (List (Int × Int))) × (Int × (Int × Unit)))))) =>
    (some true)))

noncomputable def e_slices_EqualFunc_Simpl_Ratio (a : (List (List (Int × Int))) × (List (List (Int × Int))) × Unit × Unit) : Option Bool := r_slices_EqualFunc_Simpl_Ratio e_impl_SameResponse_1 N0 a.1 a.2.1 a.2.2.1
def r_impl_SameResponse (c_slices_EqualFunc_Simpl_Ratio : ((List (List (Int × Int))) × (List (List (Int × Int))) × Unit × Unit → Option Bool)) (_N : Nat) (a0 : (List (List (Int × Int)))) (a1 : (List (List (Int × Int)))) : Option Bool :=
  (Option.bind (c_slices_EqualFunc_Simpl_Ratio (a0, (a1, ((), ())))) fun (x1 : Bool) =>
  (some x1))

noncomputable def e_impl_SameResponse (a : (List (List (Int × Int))) × (List (List (Int × Int))) × Unit) : Option Bool := r_impl_SameResponse e_slices_EqualFunc_Simpl_Ratio N0 a.1 a.2.1
abbrev TNet' := Int × Int × Int × List (Int × Int × Int)
abbrev TMat' := List (List (Int × Int))

noncomputable def e_impl_FaultsLike_1 (x : Int × Int) (n : TNet') (m : TMat') : Option Bool :=
  (e_impl_after (n, x, ())).bind fun y => (e_impl_SameResponse (y, m, ())).bind fun b => some (!b)

noncomputable def e_impl_FaultsLike (a : TNet' × TMat' × Unit) : Option (List (Int × Int)) :=
  (e_impl_AllFaults (a.1, ())).bind fun l => open Classical in if ∀ x ∈ l, (e_impl_FaultsLike_1 x a.1 a.2.1).isSome = true then some (l.filter fun x => !(e_impl_FaultsLike_1 x a.1 a.2.1).getD true) else none


def r_impl_HiddenFaults (c_impl_ResponseOf : ((Int × Int × Int × List (Int × Int × Int)) × Unit → Option ((List (List (Int × Int))) × Bool))) (c_impl_FaultsLike : ((Int × Int × Int × List (Int × Int × Int)) × (List (List (Int × Int))) × Unit → Option (List (Int × Int)))) (_N : Nat) (a0 : (Int × (Int × (Int × (List (Int × (Int × Int))))))) : Option (List (Int × Int)) :=
  (Option.bind (c_impl_ResponseOf (a0, ())) fun (x1 : ((List (List (Int × Int))) × Bool)) =>
  (Option.bind (c_impl_FaultsLike (a0, (x1.1, ()))) fun (x2 : (List (Int × Int))) =>
  (some x2)))

noncomputable def e_impl_HiddenFaults (a : (Int × Int × Int × List (Int × Int × Int)) × Unit) : Option (List (Int × Int)) := r_impl_HiddenFaults e_impl_ResponseOf e_impl_FaultsLike N0 a.1
def r_impl_onPath_L0 (m_impl_onPath : ((List Bool) → ((Int × Int × Int × List (Int × Int × Int)) × Int × (Int × Int × Int) × Bool × Int × Unit) → Option ((List Bool) × Bool))) (_N : Nat) (s : (Int × ((List Bool) × (Bool × (Int × ((Int × (Int × (Int × (List (Int × (Int × Int)))))) × ((Int × (Int × Int)) × (Bool × ((List (Int × (Int × Int))) × (Int × (Int × Unit))))))))))) (kc ke : (Int × ((List Bool) × (Bool × (Int × ((Int × (Int × (Int × (List (Int × (Int × Int)))))) × ((Int × (Int × Int)) × (Bool × ((List (Int × (Int × Int))) × (Int × (Int × Unit)))))))))) → Option ((List Bool) × Bool)) : Option ((List Bool) × Bool) :=
  (cond (decide (s.2.2.2.2.2.2.2.2.2.1 < s.2.2.2.2.2.2.2.2.1))
    (Option.bind (getI s.2.2.2.2.2.2.2.1 s.2.2.2.2.2.2.2.2.2.1) fun (x1 : (Int × (Int × Int))) =>
    (cond (decide (x1.1 = s.1))
      (Option.bind (getI s.2.1 (wr ((wr (x1.1 + x1.2.1)) - s.1))) fun (x2 : Bool) =>
      (cond (!x2)
        (cond s.2.2.2.2.2.2.1
          (kc (s.1, (s.2.1, (s.2.2.1, (s.2.2.2.1, (s.2.2.2.2.1, (s.2.2.2.2.2.1, (true, (s.2.2.2.2.2.2.2.1, (s.2.2.2.2.2.2.2.2.1, ((wr (s.2.2.2.2.2.2.2.2.2.1 + (1 : Int))), ())))))))))))
          (cond s.2.2.1
            (Option.bind (m_impl_onPath s.2.1 (s.2.2.2.2.1, ((wr ((wr (x1.1 + x1.2.1)) - s.1)), (s.2.2.2.2.2.1, (true, (s.2.2.2.1, ())))))) fun (x3 : ((List Bool) × Bool)) =>
            (kc (s.1, (x3.1, (s.2.2.1, (s.2.2.2.1, (s.2.2.2.2.1, (s.2.2.2.2.2.1, (x3.2, (s.2.2.2.2.2.2.2.1, (s.2.2.2.2.2.2.2.2.1, ((wr (s.2.2.2.2.2.2.2.2.2.1 + (1 : Int))), ()))))))))))))
            (Option.bind (m_impl_onPath s.2.1 (s.2.2.2.2.1, ((wr ((wr (x1.1 + x1.2.1)) - s.1)), (s.2.2.2.2.2.1, (((intEq x1.1 s.2.2.2.2.2.1.1) && ((intEq x1.2.1 s.2.2.2.2.2.1.2.1) && (intEq x1.2.2 s.2.2.2.2.2.1.2.2))), (s.2.2.2.1, ())))))) fun (x4 : ((List Bool) × Bool)) =>
            (kc (s.1, (x4.1, (s.2.2.1, (s.2.2.2.1, (s.2.2.2.2.1, (s.2.2.2.2.2.1, (x4.2, (s.2.2.2.2.2.2.2.1, (s.2.2.2.2.2.2.2.2.1, ((wr (s.2.2.2.2.2.2.2.2.2.1 + (1 : Int))), ()))))))))))))))
        (kc (s.1, (s.2.1, (s.2.2.1, (s.2.2.2.1, (s.2.2.2.2.1, (s.2.2.2.2.2.1, (s.2.2.2.2.2.2.1, (s.2.2.2.2.2.2.2.1, (s.2.2.2.2.2.2.2.2.1, ((wr (s.2.2.2.2.2.2.2.2.2.1 + (1 : Int))), ())))))))))))))
      (cond (decide (x1.2.1 = s.1))
        (Option.bind (getI s.2.1 (wr ((wr (x1.1 + x1.2.1)) - s.1))) fun (x5 : Bool) =>
        (cond (!x5)
          (cond s.2.2.2.2.2.2.1
            (kc (s.1, (s.2.1, (s.2.2.1, (s.2.2.2.1, (s.2.2.2.2.1, (s.2.2.2.2.2.1, (true, (s.2.2.2.2.2.2.2.1, (s.2.2.2.2.2.2.2.2.1, ((wr (s.2.2.2.2.2.2.2.2.2.1 + (1 : Int))), ())))))))))))
            (cond s.2.2.1
              (Option.bind (m_impl_onPath s.2.1 (s.2.2.2.2.1, ((wr ((wr (x1.1 + x1.2.1)) - s.1)), (s.2.2.2.2.2.1, (true, (s.2.2.2.1, ())))))) fun (x6 : ((List Bool) × Bool)) =>
              (kc (s.1, (x6.1, (s.2.2.1, (s.2.2.2.1, (s.2.2.2.2.1, (s.2.2.2.2.2.1, (x6.2, (s.2.2.2.2.2.2.2.1, (s.2.2.2.2.2.2.2.2.1, ((wr (s.2.2.2.2.2.2.2.2.2.1 + (1 : Int))), ()))))))))))))
              (Option.bind (m_impl_onPath s.2.1 (s.2.2.2.2.1, ((wr ((wr (x1.1 + x1.2.1)) - s.1)), (s.2.2.2.2.2.1, (((intEq x1.1 s.2.2.2.2.2.1.1) && ((intEq x1.2.1 s.2.2.2.2.2.1.2.1) && (intEq x1.2.2 s.2.2.2.2.2.1.2.2))), (s.2.2.2.1, ())))))) fun (x7 : ((List Bool) × Bool)) =>
              (kc (s.1, (x7.1, (s.2.2.1, (s.2.2.2.1, (s.2.2.2.2.1, (s.2.2.2.2.2.1, (x7.2, (s.2.2.2.2.2.2.2.1, (s.2.2.2.2.2.2.2.2.1, ((wr (s.2.2.2.2.2.2.2.2.2.1 + (1 : Int))), ()))))))))))))))
          (kc (s.1, (s.2.1, (s.2.2.1, (s.2.2.2.1, (s.2.2.2.2.1, (s.2.2.2.2.2.1, (s.2.2.2.2.2.2.1, (s.2.2.2.2.2.2.2.1, (s.2.2.2.2.2.2.2.2.1, ((wr (s.2.2.2.2.2.2.2.2.2.1 + (1 : Int))), ())))))))))))))
        (kc (s.1, (s.2.1, (s.2.2.1, (s.2.2.2.1, (s.2.2.2.2.1, (s.2.2.2.2.2.1, (s.2.2.2.2.2.2.1, (s.2.2.2.2.2.2.2.1, (s.2.2.2.2.2.2.2.2.1, ((wr (s.2.2.2.2.2.2.2.2.2.1 + (1 : Int))), ()))))))))))))))
    (ke (s.1, (s.2.1, (s.2.2.1, (s.2.2.2.1, (s.2.2.2.2.1, (s.2.2.2.2.2.1, (s.2.2.2.2.2.2.1, (s.2.2.2.2.2.2.2.1, (s.2.2.2.2.2.2.2.2.1, (s.2.2.2.2.2.2.2.2.2.1, ()))))))))))))
def r_impl_onPath (m_impl_onPath : ((List Bool) → ((Int × Int × Int × List (Int × Int × Int)) × Int × (Int × Int × Int) × Bool × Int × Unit) → Option ((List Bool) × Bool))) (N : Nat) (a0 : (Int × (Int × (Int × (List (Int × (Int × Int))))))) (a1 : Int) (a2 : (List Bool)) (a3 : (Int × (Int × Int))) (a4 : Bool) (a5 : Int) : Option ((List Bool) × Bool) :=
  (cond (decide (a1 < a0.2.1))
    (cond (!(decide (a1 = a5)))
      (cond a4
        (some (a2, true))
        (Option.bind (getI a2 a1) fun (_x1 : Bool) =>
        (iterK (r_impl_onPath_L0 m_impl_onPath N) N (a1, ((List.set a2 (Int.toNat a1) true), (a4, (a5, (a0, (a3, (false, (a0.2.2.2, ((((List.length a0.2.2.2) : Nat) : Int), ((0 : Int), ())))))))))) fun (s2 : (Int × ((List Bool) × (Bool × (Int × ((Int × (Int × (Int × (List (Int × (Int × Int)))))) × ((Int × (Int × Int)) × (Bool × ((List (Int × (Int × Int))) × (Int × (Int × Unit))))))))))) =>
        (Option.bind (getI s2.2.1 s2.1) fun (_x3 : Bool) =>
        (some ((List.set s2.2.1 (Int.toNat s2.1) false), s2.2.2.2.2.2.2.1))))))
      (Option.bind (getI a2 a1) fun (_x4 : Bool) =>
      (iterK (r_impl_onPath_L0 m_impl_onPath N) N (a1, ((List.set a2 (Int.toNat a1) true), (a4, (a5, (a0, (a3, (false, (a0.2.2.2, ((((List.length a0.2.2.2) : Nat) : Int), ((0 : Int), ())))))))))) fun (s5 : (Int × ((List Bool) × (Bool × (Int × ((Int × (Int × (Int × (List (Int × (Int × Int)))))) × ((Int × (Int × Int)) × (Bool × ((List (Int × (Int × Int))) × (Int × (Int × Unit))))))))))) =>
      (Option.bind (getI s5.2.1 s5.1) fun (_x6 : Bool) =>
      (some ((List.set s5.2.1 (Int.toNat s5.1) false), s5.2.2.2.2.2.2.1))))))
    (Option.bind (getI a2 a1) fun (_x7 : Bool) =>
    (iterK (r_impl_onPath_L0 m_impl_onPath N) N (a1, ((List.set a2 (Int.toNat a1) true), (a4, (a5, (a0, (a3, (false, (a0.2.2.2, ((((List.length a0.2.2.2) : Nat) : Int), ((0 : Int), ())))))))))) fun (s8 : (Int × ((List Bool) × (Bool × (Int × ((Int × (Int × (Int × (List (Int × (Int × Int)))))) × ((Int × (Int × Int)) × (Bool × ((List (Int × (Int × Int))) × (Int × (Int × Unit))))))))))) =>
    (Option.bind (getI s8.2.1 s8.1) fun (_x9 : Bool) =>
    (some ((List.set s8.2.1 (Int.toNat s8.1) false), s8.2.2.2.2.2.2.1))))))

noncomputable def e_impl_onPath_n : Nat → (List Bool) → ((Int × Int × Int × List (Int × Int × Int)) × Int × (Int × Int × Int) × Bool × Int × Unit) → Option ((List Bool) × Bool)
  | 0, _, _ => none
  | n + 1, y, a => r_impl_onPath (e_impl_onPath_n n) N0 a.1 a.2.1 y a.2.2.1 a.2.2.2.1 a.2.2.2.2.1
noncomputable def e_impl_onPath (y : (List Bool)) (a : (Int × Int × Int × List (Int × Int × Int)) × Int × (Int × Int × Int) × Bool × Int × Unit) : Option ((List Bool) × Bool) := e_impl_onPath_n N0 y a
def r_impl_BlindWires_L2 (_c_impl_NetOk : ((Int × Int × Int × List (Int × Int × Int)) × Unit → Option Bool)) (m_impl_onPath : ((List Bool) → ((Int × Int × Int × List (Int × Int × Int)) × Int × (Int × Int × Int) × Bool × Int × Unit) → Option ((List Bool) × Bool))) (_N : Nat) (s : ((Int × (Int × (Int × (List (Int × (Int × Int)))))) × ((List Int) × (Int × ((Int × (Int × Int)) × (Bool × ((List (Int × (Int × Int))) × (Int × (Int × (Int × (Int × Unit))))))))))) (kc ke : ((Int × (Int × (Int × (List (Int × (Int × Int)))))) × ((List Int) × (Int × ((Int × (Int × Int)) × (Bool × ((List (Int × (Int × Int))) × (Int × (Int × (Int × (Int × Unit)))))))))) → Option (List Int)) : Option (List Int) :=
  (cond (decide (s.2.2.2.2.2.2.2.2.2.1 < s.2.2.2.2.2.2.2.2.1))
    (cond s.2.2.2.2.1
      (kc (s.1, (s.2.1, (s.2.2.1, (s.2.2.2.1, (true, (s.2.2.2.2.2.1, (s.2.2.2.2.2.2.1, (s.2.2.2.2.2.2.2.1, (s.2.2.2.2.2.2.2.2.1, ((wr (s.2.2.2.2.2.2.2.2.2.1 + (1 : Int))), ())))))))))))
      (cond (decide ((0 : Int) ≤ s.1.1))
        (cond (Nat.ble (Int.toNat s.1.1) 17179869184)
          (Option.bind (m_impl_onPath (List.replicate (Int.toNat s.1.1) false) (s.1, (s.2.2.2.2.2.2.2.2.2.1, (s.2.2.2.1, (false, (s.2.2.2.2.2.2.2.2.2.1, ())))))) fun (x1 : ((List Bool) × Bool)) =>
          (kc (s.1, (s.2.1, (s.2.2.1, (s.2.2.2.1, (x1.2, (s.2.2.2.2.2.1, (s.2.2.2.2.2.2.1, (s.2.2.2.2.2.2.2.1, (s.2.2.2.2.2.2.2.2.1, ((wr (s.2.2.2.2.2.2.2.2.2.1 + (1 : Int))), ()))))))))))))
          none)
        none))
    (ke (s.1, (s.2.1, (s.2.2.1, (s.2.2.2.1, (s.2.2.2.2.1, (s.2.2.2.2.2.1, (s.2.2.2.2.2.2.1, (s.2.2.2.2.2.2.2.1, (s.2.2.2.2.2.2.2.2.1, (s.2.2.2.2.2.2.2.2.2.1, ()))))))))))))
def r_impl_BlindWires_L0 (c_impl_NetOk : ((Int × Int × Int × List (Int × Int × Int)) × Unit → Option Bool)) (m_impl_onPath : ((List Bool) → ((Int × Int × Int × List (Int × Int × Int)) × Int × (Int × Int × Int) × Bool × Int × Unit) → Option ((List Bool) × Bool))) (N : Nat) (s : ((Int × (Int × (Int × (List (Int × (Int × Int)))))) × ((List Int) × ((List (Int × (Int × Int))) × (Int × (Int × Unit)))))) (kc ke : ((Int × (Int × (Int × (List (Int × (Int × Int)))))) × ((List Int) × ((List (Int × (Int × Int))) × (Int × (Int × Unit))))) → Option (List Int)) : Option (List Int) :=
  (cond (decide (s.2.2.2.2.1 < s.2.2.2.1))
    (Option.bind (getI s.2.2.1 s.2.2.2.2.1) fun (x1 : (Int × (Int × Int))) =>
    (iterK (r_impl_BlindWires_L2 c_impl_NetOk m_impl_onPath N) N (s.1, (s.2.1, (s.2.2.2.2.1, (x1, (false, (s.2.2.1, (s.2.2.2.1, (s.2.2.2.2.1, (s.1.2.1, ((0 : Int), ())))))))))) fun (s2 : ((Int × (Int × (Int × (List (Int × (Int × Int)))))) × ((List Int) × (Int × ((Int × (Int × Int)) × (Bool × ((List (Int × (Int × Int))) × (Int × (Int × (Int × (Int × Unit))))))))))) =>
    (cond (!s2.2.2.2.2.1)
      (cond (Nat.ble ((List.length s2.2.1) + (List.length (s2.2.2.1 :: ([] : List Int)))) 17179869184)
        (kc (s2.1, ((s2.2.1 ++ (s2.2.2.1 :: ([] : List Int))), (s2.2.2.2.2.2.1, (s2.2.2.2.2.2.2.1, ((wr (s2.2.2.2.2.2.2.2.1 + (1 : Int))), ()))))))
        none)
      (kc (s2.1, (s2.2.1, (s2.2.2.2.2.2.1, (s2.2.2.2.2.2.2.1, ((wr (s2.2.2.2.2.2.2.2.1 + (1 : Int))), ())))))))))
    (ke (s.1, (s.2.1, (s.2.2.1, (s.2.2.2.1, (s.2.2.2.2.1, ())))))))
def r_impl_BlindWires (c_impl_NetOk : ((Int × Int × Int × List (Int × Int × Int)) × Unit → Option Bool)) (m_impl_onPath : ((List Bool) → ((Int × Int × Int × List (Int × Int × Int)) × Int × (Int × Int × Int) × Bool × Int × Unit) → Option ((List Bool) × Bool))) (N : Nat) (a0 : (Int × (Int × (Int × (List (Int × (Int × Int))))))) : Option (List Int) :=
  (Option.bind (c_impl_NetOk (a0, ())) fun (x1 : Bool) =>
  (cond (!x1)
    (some ([] : List Int))
    (iterK (r_impl_BlindWires_L0 c_impl_NetOk m_impl_onPath N) N (a0, (([] : List Int), (a0.2.2.2, ((((List.length a0.2.2.2) : Nat) : Int), ((0 : Int), ()))))) fun (s2 : ((Int × (Int × (Int × (List (Int × (Int × Int)))))) × ((List Int) × ((List (Int × (Int × Int))) × (Int × (Int × Unit)))))) =>
    (some s2.2.1))))

noncomputable def e_impl_BlindWires (a : (Int × Int × Int × List (Int × Int × Int)) × Unit) : Option (List Int) := r_impl_BlindWires e_impl_NetOk e_impl_onPath N0 a.1
def r_impl_AreAlike (c_impl_ResponseOf : ((Int × Int × Int × List (Int × Int × Int)) × Unit → Option ((List (List (Int × Int))) × Bool))) (c_impl_SameResponse : ((List (List (Int × Int))) × (List (List (Int × Int))) × Unit → Option Bool)) (_N : Nat) (a0 : (Int × (Int × (Int × (List (Int × (Int × Int))))))) (a1 : (Int × (Int × (Int × (List (Int × (Int × Int))))))) : Option Bool :=
  (Option.bind (c_impl_ResponseOf (a0, ())) fun (x1 : ((List (List (Int × Int))) × Bool)) =>
  (Option.bind (c_impl_ResponseOf (a1, ())) fun (x2 : ((List (List (Int × Int))) × Bool)) =>
  (cond x1.2
    (cond x2.2
      (Option.bind (c_impl_SameResponse (x1.1, (x2.1, ()))) fun (x3 : Bool) =>
      (some x3))
      (some false))
    (some false))))

noncomputable def e_impl_AreAlike (a : (Int × Int × Int × List (Int × Int × Int)) × (Int × Int × Int × List (Int × Int × Int)) × Unit) : Option Bool := r_impl_AreAlike e_impl_ResponseOf e_impl_SameResponse N0 a.1 a.2.1
def r_laws_has_L0 (_N : Nat) (s : (Int × ((List Int) × (Int × (Int × Unit))))) (kc ke : (Int × ((List Int) × (Int × (Int × Unit)))) → Option Bool) : Option Bool :=
  (cond (decide (s.2.2.2.1 < s.2.2.1))
    (Option.bind (getI s.2.1 s.2.2.2.1) fun (x1 : Int) =>
    (cond (decide (x1 = s.1))
      (some true)
      (kc (s.1, (s.2.1, (s.2.2.1, ((wr (s.2.2.2.1 + (1 : Int))), ())))))))
    (ke (s.1, (s.2.1, (s.2.2.1, (s.2.2.2.1, ()))))))
def r_laws_has (N : Nat) (a0 : (List Int)) (a1 : Int) : Option Bool :=
  (iterK (r_laws_has_L0 N) N (a1, (a0, ((((List.length a0) : Nat) : Int), ((0 : Int), ())))) fun (_s1 : (Int × ((List Int) × (Int × (Int × Unit))))) =>
  (some false))

noncomputable def e_laws_has (a : (List Int) × Int × Unit) : Option Bool := r_laws_has N0 a.1 a.2.1
def r_impl_CanLocate_L2 (_c_impl_NetOk : ((Int × Int × Int × List (Int × Int × Int)) × Unit → Option Bool)) (_c_impl_isWire : ((Int × Int × Int × List (Int × Int × Int)) × Int × Unit → Option Bool)) (_c_impl_ResponseOf : ((Int × Int × Int × List (Int × Int × Int)) × Unit → Option ((List (List (Int × Int))) × Bool))) (_c_impl_AllFaults : ((Int × Int × Int × List (Int × Int × Int)) × Unit → Option (List (Int × Int)))) (c_impl_after : ((Int × Int × Int × List (Int × Int × Int)) × (Int × Int) × Unit → Option (List (List (Int × Int))))) (c_impl_SameResponse : ((List (List (Int × Int))) × (List (List (Int × Int))) × Unit → Option Bool)) (_N : Nat) (s : (Int × ((Int × (Int × (Int × (List (Int × (Int × Int)))))) × ((List (List (Int × Int))) × (Int × ((List (Int × Int)) × ((List (List (Int × Int))) × ((List (Int × Int)) × (Int × (Int × ((List (Int × Int)) × (Int × (Int × Unit))))))))))))) (kc ke : (Int × ((Int × (Int × (Int × (List (Int × (Int × Int)))))) × ((List (List (Int × Int))) × (Int × ((List (Int × Int)) × ((List (List (Int × Int))) × ((List (Int × Int)) × (Int × (Int × ((List (Int × Int)) × (Int × (Int × Unit)))))))))))) → Option Bool) : Option Bool :=
  (cond (decide (s.2.2.2.2.2.2.2.2.2.2.2.1 < s.2.2.2.2.2.2.2.2.2.2.1))
    (Option.bind (getI s.2.2.2.2.2.2.2.2.2.1 s.2.2.2.2.2.2.2.2.2.2.2.1) fun (x1 : (Int × Int)) =>
    (cond (!(decide (x1.1 = s.1)))
      (Option.bind (c_impl_after (s.2.1, (x1, ()))) fun (x2 : (List (List (Int × Int)))) =>
      (Option.bind (c_impl_SameResponse (s.2.2.2.2.2.1, (x2, ()))) fun (x3 : Bool) =>
      (cond x3
        (some false)
        (kc (s.1, (s.2.1, (s.2.2.1, (s.2.2.2.1, (s.2.2.2.2.1, (s.2.2.2.2.2.1, (s.2.2.2.2.2.2.1, (s.2.2.2.2.2.2.2.1, (s.2.2.2.2.2.2.2.2.1, (s.2.2.2.2.2.2.2.2.2.1, (s.2.2.2.2.2.2.2.2.2.2.1, ((wr (s.2.2.2.2.2.2.2.2.2.2.2.1 + (1 : Int))), ()))))))))))))))))
      (kc (s.1, (s.2.1, (s.2.2.1, (s.2.2.2.1, (s.2.2.2.2.1, (s.2.2.2.2.2.1, (s.2.2.2.2.2.2.1, (s.2.2.2.2.2.2.2.1, (s.2.2.2.2.2.2.2.2.1, (s.2.2.2.2.2.2.2.2.2.1, (s.2.2.2.2.2.2.2.2.2.2.1, ((wr (s.2.2.2.2.2.2.2.2.2.2.2.1 + (1 : Int))), ())))))))))))))))
    (ke (s.1, (s.2.1, (s.2.2.1, (s.2.2.2.1, (s.2.2.2.2.1, (s.2.2.2.2.2.1, (s.2.2.2.2.2.2.1, (s.2.2.2.2.2.2.2.1, (s.2.2.2.2.2.2.2.2.1, (s.2.2.2.2.2.2.2.2.2.1, (s.2.2.2.2.2.2.2.2.2.2.1, (s.2.2.2.2.2.2.2.2.2.2.2.1, ()))))))))))))))
def r_impl_CanLocate_L0 (c_impl_NetOk : ((Int × Int × Int × List (Int × Int × Int)) × Unit → Option Bool)) (c_impl_isWire : ((Int × Int × Int × List (Int × Int × Int)) × Int × Unit → Option Bool)) (c_impl_ResponseOf : ((Int × Int × Int × List (Int × Int × Int)) × Unit → Option ((List (List (Int × Int))) × Bool))) (c_impl_AllFaults : ((Int × Int × Int × List (Int × Int × Int)) × Unit → Option (List (Int × Int)))) (c_impl_after : ((Int × Int × Int × List (Int × Int × Int)) × (Int × Int) × Unit → Option (List (List (Int × Int))))) (c_impl_SameResponse : ((List (List (Int × Int))) × (List (List (Int × Int))) × Unit → Option Bool)) (N : Nat) (s : (Int × ((Int × (Int × (Int × (List (Int × (Int × Int)))))) × ((List (List (Int × Int))) × (Int × ((List (Int × Int)) × ((List (Int × Int)) × (Int × (Int × Unit))))))))) (kc ke : (Int × ((Int × (Int × (Int × (List (Int × (Int × Int)))))) × ((List (List (Int × Int))) × (Int × ((List (Int × Int)) × ((List (Int × Int)) × (Int × (Int × Unit)))))))) → Option Bool) : Option Bool :=
  (cond (decide (s.2.2.2.2.2.2.2.1 < s.2.2.2.2.2.2.1))
    (Option.bind (getI s.2.2.2.2.2.1 s.2.2.2.2.2.2.2.1) fun (x1 : (Int × Int)) =>
    (cond (!(decide (x1.1 = s.1)))
      (kc (s.1, (s.2.1, (s.2.2.1, (s.2.2.2.1, (s.2.2.2.2.1, (s.2.2.2.2.2.1, (s.2.2.2.2.2.2.1, ((wr (s.2.2.2.2.2.2.2.1 + (1 : Int))), ())))))))))
      (Option.bind (c_impl_after (s.2.1, (x1, ()))) fun (x2 : (List (List (Int × Int)))) =>
      (Option.bind (c_impl_SameResponse (x2, (s.2.2.1, ()))) fun (x3 : Bool) =>
      (cond x3
        (some false)
        (iterK (r_impl_CanLocate_L2 c_impl_NetOk c_impl_isWire c_impl_ResponseOf c_impl_AllFaults c_impl_after c_impl_SameResponse N) N (s.1, (s.2.1, (s.2.2.1, ((wr (s.2.2.2.1 + (1 : Int))), (s.2.2.2.2.1, (x2, (s.2.2.2.2.2.1, (s.2.2.2.2.2.2.1, (s.2.2.2.2.2.2.2.1, (s.2.2.2.2.1, ((((List.length s.2.2.2.2.1) : Nat) : Int), ((0 : Int), ())))))))))))) fun (s4 : (Int × ((Int × (Int × (Int × (List (Int × (Int × Int)))))) × ((List (List (Int × Int))) × (Int × ((List (Int × Int)) × ((List (List (Int × Int))) × ((List (Int × Int)) × (Int × (Int × ((List (Int × Int)) × (Int × (Int × Unit))))))))))))) =>
        (kc (s4.1, (s4.2.1, (s4.2.2.1, (s4.2.2.2.1, (s4.2.2.2.2.1, (s4.2.2.2.2.2.2.1, (s4.2.2.2.2.2.2.2.1, ((wr (s4.2.2.2.2.2.2.2.2.1 + (1 : Int))), ())))))))))))))))
    (ke (s.1, (s.2.1, (s.2.2.1, (s.2.2.2.1, (s.2.2.2.2.1, (s.2.2.2.2.2.1, (s.2.2.2.2.2.2.1, (s.2.2.2.2.2.2.2.1, ()))))))))))
def r_impl_CanLocate (c_impl_NetOk : ((Int × Int × Int × List (Int × Int × Int)) × Unit → Option Bool)) (c_impl_isWire : ((Int × Int × Int × List (Int × Int × Int)) × Int × Unit → Option Bool)) (c_impl_ResponseOf : ((Int × Int × Int × List (Int × Int × Int)) × Unit → Option ((List (List (Int × Int))) × Bool))) (c_impl_AllFaults : ((Int × Int × Int × List (Int × Int × Int)) × Unit → Option (List (Int × Int)))) (c_impl_after : ((Int × Int × Int × List (Int × Int × Int)) × (Int × Int) × Unit → Option (List (List (Int × Int))))) (c_impl_SameResponse : ((List (List (Int × Int))) × (List (List (Int × Int))) × Unit → Option Bool)) (N : Nat) (a0 : (Int × (Int × (Int × (List (Int × (Int × Int))))))) (a1 : Int) : Option Bool :=
  (Option.bind (c_impl_NetOk (a0, ())) fun (x1 : Bool) =>
  (cond (!x1)
    (some false)
    (Option.bind (c_impl_isWire (a0, (a1, ()))) fun (x2 : Bool) =>
    (cond (!x2)
      (some false)
      (Option.bind (c_impl_ResponseOf (a0, ())) fun (x3 : ((List (List (Int × Int))) × Bool)) =>
      (Option.bind (c_impl_AllFaults (a0, ())) fun (x4 : (List (Int × Int))) =>
      (iterK (r_impl_CanLocate_L0 c_impl_NetOk c_impl_isWire c_impl_ResponseOf c_impl_AllFaults c_impl_after c_impl_SameResponse N) N (a1, (a0, (x3.1, ((0 : Int), (x4, (x4, ((((List.length x4) : Nat) : Int), ((0 : Int), ())))))))) fun (s5 : (Int × ((Int × (Int × (Int × (List (Int × (Int × Int)))))) × ((List (List (Int × Int))) × (Int × ((List (Int × Int)) × ((List (Int × Int)) × (Int × (Int × Unit))))))))) =>
      (some (decide (s5.2.2.2.1 > (0 : Int)))))))))))

noncomputable def e_impl_CanLocate (a : (Int × Int × Int × List (Int × Int × Int)) × Int × Unit) : Option Bool := r_impl_CanLocate e_impl_NetOk e_impl_isWire e_impl_ResponseOf e_impl_AllFaults e_impl_after e_impl_SameResponse N0 a.1 a.2.1
def r_laws_FnHidden_L2 (_c_spec_MakeSmall : (Value × Unit → Option (Int × Int × Int × List (Int × Int × Int)))) (_c_impl_HiddenFaults : ((Int × Int × Int × List (Int × Int × Int)) × Unit → Option (List (Int × Int)))) (_c_impl_BlindWires : ((Int × Int × Int × List (Int × Int × Int)) × Unit → Option (List Int))) (_c_impl_AllFaults : ((Int × Int × Int × List (Int × Int × Int)) × Unit → Option (List (Int × Int)))) (_c_impl_NetOk : ((Int × Int × Int × List (Int × Int × Int)) × Unit → Option Bool)) (_c_impl_ApplyFault : ((Int × Int × Int × List (Int × Int × Int)) × (Int × Int) × Unit → Option ((Int × Int × Int × List (Int × Int × Int)) × Bool))) (_c_impl_AreAlike : ((Int × Int × Int × List (Int × Int × Int)) × (Int × Int × Int × List (Int × Int × Int)) × Unit → Option Bool)) (_c_laws_has : ((List Int) × Int × Unit → Option Bool)) (_c_impl_CanLocate : ((Int × Int × Int × List (Int × Int × Int)) × Int × Unit → Option Bool)) (_N : Nat) (s : ((Int × (Int × (Int × (List (Int × (Int × Int)))))) × ((List (Int × Int)) × ((List Int) × ((Int × Int) × ((Int × (Int × (Int × (List (Int × (Int × Int)))))) × (Bool × (Bool × ((List (Int × Int)) × (Int × (Int × ((List (Int × Int)) × (Int × (Int × Unit)))))))))))))) (kc ke : ((Int × (Int × (Int × (List (Int × (Int × Int)))))) × ((List (Int × Int)) × ((List Int) × ((Int × Int) × ((Int × (Int × (Int × (List (Int × (Int × Int)))))) × (Bool × (Bool × ((List (Int × Int)) × (Int × (Int × ((List (Int × Int)) × (Int × (Int × Unit))))))))))))) → Option Bool) : Option Bool :=
  (cond (decide (s.2.2.2.2.2.2.2.2.2.2.2.2.1 < s.2.2.2.2.2.2.2.2.2.2.2.1))
    (Option.bind (getI s.2.2.2.2.2.2.2.2.2.2.1 s.2.2.2.2.2.2.2.2.2.2.2.2.1) fun (x1 : (Int × Int)) =>
    (cond s.2.2.2.2.2.2.1
      (kc (s.1, (s.2.1, (s.2.2.1, (s.2.2.2.1, (s.2.2.2.2.1, (s.2.2.2.2.2.1, (true, (s.2.2.2.2.2.2.2.1, (s.2.2.2.2.2.2.2.2.1, (s.2.2.2.2.2.2.2.2.2.1, (s.2.2.2.2.2.2.2.2.2.2.1, (s.2.2.2.2.2.2.2.2.2.2.2.1, ((wr (s.2.2.2.2.2.2.2.2.2.2.2.2.1 + (1 : Int))), ()))))))))))))))
      (kc (s.1, (s.2.1, (s.2.2.1, (s.2.2.2.1, (s.2.2.2.2.1, (s.2.2.2.2.2.1, (((intEq x1.1 s.2.2.2.1.1) && (intEq x1.2 s.2.2.2.1.2)), (s.2.2.2.2.2.2.2.1, (s.2.2.2.2.2.2.2.2.1, (s.2.2.2.2.2.2.2.2.2.1, (s.2.2.2.2.2.2.2.2.2.2.1, (s.2.2.2.2.2.2.2.2.2.2.2.1, ((wr (s.2.2.2.2.2.2.2.2.2.2.2.2.1 + (1 : Int))), ()))))))))))))))))
    (ke (s.1, (s.2.1, (s.2.2.1, (s.2.2.2.1, (s.2.2.2.2.1, (s.2.2.2.2.2.1, (s.2.2.2.2.2.2.1, (s.2.2.2.2.2.2.2.1, (s.2.2.2.2.2.2.2.2.1, (s.2.2.2.2.2.2.2.2.2.1, (s.2.2.2.2.2.2.2.2.2.2.1, (s.2.2.2.2.2.2.2.2.2.2.2.1, (s.2.2.2.2.2.2.2.2.2.2.2.2.1, ())))))))))))))))
def r_laws_FnHidden_L6 (_c_spec_MakeSmall : (Value × Unit → Option (Int × Int × Int × List (Int × Int × Int)))) (_c_impl_HiddenFaults : ((Int × Int × Int × List (Int × Int × Int)) × Unit → Option (List (Int × Int)))) (_c_impl_BlindWires : ((Int × Int × Int × List (Int × Int × Int)) × Unit → Option (List Int))) (_c_impl_AllFaults : ((Int × Int × Int × List (Int × Int × Int)) × Unit → Option (List (Int × Int)))) (_c_impl_NetOk : ((Int × Int × Int × List (Int × Int × Int)) × Unit → Option Bool)) (_c_impl_ApplyFault : ((Int × Int × Int × List (Int × Int × Int)) × (Int × Int) × Unit → Option ((Int × Int × Int × List (Int × Int × Int)) × Bool))) (_c_impl_AreAlike : ((Int × Int × Int × List (Int × Int × Int)) × (Int × Int × Int × List (Int × Int × Int)) × Unit → Option Bool)) (c_laws_has : ((List Int) × Int × Unit → Option Bool)) (c_impl_CanLocate : ((Int × Int × Int × List (Int × Int × Int)) × Int × Unit → Option Bool)) (_N : Nat) (s : ((Int × (Int × (Int × (List (Int × (Int × Int)))))) × ((List Int) × (Int × (Int × Unit))))) (kc ke : ((Int × (Int × (Int × (List (Int × (Int × Int)))))) × ((List Int) × (Int × (Int × Unit)))) → Option Bool) : Option Bool :=
  (cond (decide (s.2.2.2.1 < s.2.2.1))
    (Option.bind (c_impl_CanLocate (s.1, (s.2.2.2.1, ()))) fun (x1 : Bool) =>
    (cond x1
      (Option.bind (c_laws_has (s.2.1, (s.2.2.2.1, ()))) fun (x2 : Bool) =>
      (cond x2
        (some false)
        (kc (s.1, (s.2.1, (s.2.2.1, ((wr (s.2.2.2.1 + (1 : Int))), ())))))))
      (kc (s.1, (s.2.1, (s.2.2.1, ((wr (s.2.2.2.1 + (1 : Int))), ())))))))
    (ke (s.1, (s.2.1, (s.2.2.1, (s.2.2.2.1, ()))))))
def r_laws_FnHidden_L4 (_c_spec_MakeSmall : (Value × Unit → Option (Int × Int × Int × List (Int × Int × Int)))) (_c_impl_HiddenFaults : ((Int × Int × Int × List (Int × Int × Int)) × Unit → Option (List (Int × Int)))) (_c_impl_BlindWires : ((Int × Int × Int × List (Int × Int × Int)) × Unit → Option (List Int))) (_c_impl_AllFaults : ((Int × Int × Int × List (Int × Int × Int)) × Unit → Option (List (Int × Int)))) (_c_impl_NetOk : ((Int × Int × Int × List (Int × Int × Int)) × Unit → Option Bool)) (_c_impl_ApplyFault : ((Int × Int × Int × List (Int × Int × Int)) × (Int × Int) × Unit → Option ((Int × Int × Int × List (Int × Int × Int)) × Bool))) (_c_impl_AreAlike : ((Int × Int × Int × List (Int × Int × Int)) × (Int × Int × Int × List (Int × Int × Int)) × Unit → Option Bool)) (_c_laws_has : ((List Int) × Int × Unit → Option Bool)) (c_impl_CanLocate : ((Int × Int × Int × List (Int × Int × Int)) × Int × Unit → Option Bool)) (_N : Nat) (s : ((Int × (Int × (Int × (List (Int × (Int × Int)))))) × ((List Int) × ((List Int) × (Int × (Int × Unit)))))) (kc ke : ((Int × (Int × (Int × (List (Int × (Int × Int)))))) × ((List Int) × ((List Int) × (Int × (Int × Unit))))) → Option Bool) : Option Bool :=
  (cond (decide (s.2.2.2.2.1 < s.2.2.2.1))
    (Option.bind (getI s.2.2.1 s.2.2.2.2.1) fun (x1 : Int) =>
    (Option.bind (c_impl_CanLocate (s.1, (x1, ()))) fun (x2 : Bool) =>
    (cond x2
      (some false)
      (kc (s.1, (s.2.1, (s.2.2.1, (s.2.2.2.1, ((wr (s.2.2.2.2.1 + (1 : Int))), ())))))))))
    (ke (s.1, (s.2.1, (s.2.2.1, (s.2.2.2.1, (s.2.2.2.2.1, ())))))))
def r_laws_FnHidden_L0 (c_spec_MakeSmall : (Value × Unit → Option (Int × Int × Int × List (Int × Int × Int)))) (c_impl_HiddenFaults : ((Int × Int × Int × List (Int × Int × Int)) × Unit → Option (List (Int × Int)))) (c_impl_BlindWires : ((Int × Int × Int × List (Int × Int × Int)) × Unit → Option (List Int))) (c_impl_AllFaults : ((Int × Int × Int × List (Int × Int × Int)) × Unit → Option (List (Int × Int)))) (c_impl_NetOk : ((Int × Int × Int × List (Int × Int × Int)) × Unit → Option Bool)) (c_impl_ApplyFault : ((Int × Int × Int × List (Int × Int × Int)) × (Int × Int) × Unit → Option ((Int × Int × Int × List (Int × Int × Int)) × Bool))) (c_impl_AreAlike : ((Int × Int × Int × List (Int × Int × Int)) × (Int × Int × Int × List (Int × Int × Int)) × Unit → Option Bool)) (c_laws_has : ((List Int) × Int × Unit → Option Bool)) (c_impl_CanLocate : ((Int × Int × Int × List (Int × Int × Int)) × Int × Unit → Option Bool)) (N : Nat) (s : ((Int × (Int × (Int × (List (Int × (Int × Int)))))) × ((List (Int × Int)) × ((List Int) × ((List (Int × Int)) × (Int × (Int × Unit))))))) (kc ke : ((Int × (Int × (Int × (List (Int × (Int × Int)))))) × ((List (Int × Int)) × ((List Int) × ((List (Int × Int)) × (Int × (Int × Unit)))))) → Option Bool) : Option Bool :=
  (cond (decide (s.2.2.2.2.2.1 < s.2.2.2.2.1))
    (Option.bind (getI s.2.2.2.1 s.2.2.2.2.2.1) fun (x1 : (Int × Int)) =>
    (Option.bind (c_impl_ApplyFault (s.1, (x1, ()))) fun (x2 : ((Int × (Int × (Int × (List (Int × (Int × Int)))))) × Bool)) =>
    (iterK (r_laws_FnHidden_L2 c_spec_MakeSmall c_impl_HiddenFaults c_impl_BlindWires c_impl_AllFaults c_impl_NetOk c_impl_ApplyFault c_impl_AreAlike c_laws_has c_impl_CanLocate N) N (s.1, (s.2.1, (s.2.2.1, (x1, (x2.1, (x2.2, (false, (s.2.2.2.1, (s.2.2.2.2.1, (s.2.2.2.2.2.1, (s.2.1, ((((List.length s.2.1) : Nat) : Int), ((0 : Int), ()))))))))))))) fun (s3 : ((Int × (Int × (Int × (List (Int × (Int × Int)))))) × ((List (Int × Int)) × ((List Int) × ((Int × Int) × ((Int × (Int × (Int × (List (Int × (Int × Int)))))) × (Bool × (Bool × ((List (Int × Int)) × (Int × (Int × ((List (Int × Int)) × (Int × (Int × Unit)))))))))))))) =>
    (cond (!s3.2.2.2.2.2.1)
      (some false)
      (Option.bind (c_impl_AreAlike (s3.1, (s3.2.2.2.2.1, ()))) fun (x4 : Bool) =>
      (cond (!(beqB s3.2.2.2.2.2.2.1 x4))
        (some false)
        (Option.bind (c_laws_has (s3.2.2.1, (s3.2.2.2.1.1, ()))) fun (x5 : Bool) =>
        (cond x5
          (cond (!s3.2.2.2.2.2.2.1)
            (some false)
            (kc (s3.1, (s3.2.1, (s3.2.2.1, (s3.2.2.2.2.2.2.2.1, (s3.2.2.2.2.2.2.2.2.1, ((wr (s3.2.2.2.2.2.2.2.2.2.1 + (1 : Int))), ()))))))))
          (kc (s3.1, (s3.2.1, (s3.2.2.1, (s3.2.2.2.2.2.2.2.1, (s3.2.2.2.2.2.2.2.2.1, ((wr (s3.2.2.2.2.2.2.2.2.2.1 + (1 : Int))), ())))))))))))))))
    (ke (s.1, (s.2.1, (s.2.2.1, (s.2.2.2.1, (s.2.2.2.2.1, (s.2.2.2.2.2.1, ()))))))))
def r_laws_FnHidden (c_spec_MakeSmall : (Value × Unit → Option (Int × Int × Int × List (Int × Int × Int)))) (c_impl_HiddenFaults : ((Int × Int × Int × List (Int × Int × Int)) × Unit → Option (List (Int × Int)))) (c_impl_BlindWires : ((Int × Int × Int × List (Int × Int × Int)) × Unit → Option (List Int))) (c_impl_AllFaults : ((Int × Int × Int × List (Int × Int × Int)) × Unit → Option (List (Int × Int)))) (c_impl_NetOk : ((Int × Int × Int × List (Int × Int × Int)) × Unit → Option Bool)) (c_impl_ApplyFault : ((Int × Int × Int × List (Int × Int × Int)) × (Int × Int) × Unit → Option ((Int × Int × Int × List (Int × Int × Int)) × Bool))) (c_impl_AreAlike : ((Int × Int × Int × List (Int × Int × Int)) × (Int × Int × Int × List (Int × Int × Int)) × Unit → Option Bool)) (c_laws_has : ((List Int) × Int × Unit → Option Bool)) (c_impl_CanLocate : ((Int × Int × Int × List (Int × Int × Int)) × Int × Unit → Option Bool)) (N : Nat) (a0 : Value) : Option Bool :=
  (Option.bind (rawLen a0) fun (x1 : Int) =>
  (cond (decide (x1 > (1048576 : Int)))
    (some true)
    (Option.bind (c_spec_MakeSmall (a0, ())) fun (x2 : (Int × (Int × (Int × (List (Int × (Int × Int))))))) =>
    (Option.bind (c_impl_HiddenFaults (x2, ())) fun (x3 : (List (Int × Int))) =>
    (Option.bind (c_impl_BlindWires (x2, ())) fun (x4 : (List Int)) =>
    (Option.bind (c_impl_AllFaults (x2, ())) fun (x5 : (List (Int × Int))) =>
    (cond (decide ((((List.length x5) : Nat) : Int) = (0 : Int)))
      (some false)
      (iterK (r_laws_FnHidden_L0 c_spec_MakeSmall c_impl_HiddenFaults c_impl_BlindWires c_impl_AllFaults c_impl_NetOk c_impl_ApplyFault c_impl_AreAlike c_laws_has c_impl_CanLocate N) N (x2, (x3, (x4, (x5, ((((List.length x5) : Nat) : Int), ((0 : Int), ())))))) fun (s6 : ((Int × (Int × (Int × (List (Int × (Int × Int)))))) × ((List (Int × Int)) × ((List Int) × ((List (Int × Int)) × (Int × (Int × Unit))))))) =>
      (iterK (r_laws_FnHidden_L4 c_spec_MakeSmall c_impl_HiddenFaults c_impl_BlindWires c_impl_AllFaults c_impl_NetOk c_impl_ApplyFault c_impl_AreAlike c_laws_has c_impl_CanLocate N) N (s6.1, (s6.2.2.1, (s6.2.2.1, ((((List.length s6.2.2.1) : Nat) : Int), ((0 : Int), ()))))) fun (s7 : ((Int × (Int × (Int × (List (Int × (Int × Int)))))) × ((List Int) × ((List Int) × (Int × (Int × Unit)))))) =>
      (iterK (r_laws_FnHidden_L6 c_spec_MakeSmall c_impl_HiddenFaults c_impl_BlindWires c_impl_AllFaults c_impl_NetOk c_impl_ApplyFault c_impl_AreAlike c_laws_has c_impl_CanLocate N) N (s7.1, (s7.2.1, ((((List.length s7.1.2.2.2) : Nat) : Int), ((0 : Int), ())))) fun (s8 : ((Int × (Int × (Int × (List (Int × (Int × Int)))))) × ((List Int) × (Int × (Int × Unit))))) =>
      (Option.bind (c_impl_NetOk (s8.1, ())) fun (x9 : Bool) =>
      (some x9))))))))))))

noncomputable def e_laws_FnHidden (A : Option (Nat × Obj)) (a : Value × Unit) : Option Bool := r_laws_FnHidden (e_spec_MakeSmall A) e_impl_HiddenFaults e_impl_BlindWires e_impl_AllFaults e_impl_NetOk e_impl_ApplyFault e_impl_AreAlike e_laws_has e_impl_CanLocate N0 a.1
end Go.Sx.R
