/- What the functions compute. Conditions: none. -/
import Derived.Test.YtjjhhgieolobjaaSx4
/- What the functions compute, printed by program out of their code. Conditions: none (definitions). -/
namespace Go.Sx.R
open Go Go.Sx
def r_spec_l01New_L0 (A : Option (Nat × Obj)) (_N : Nat) (s : (Value × (Int × (Int × Unit)))) (kc ke : (Value × (Int × (Int × Unit))) → Option (Option (Value × (Int × Int)))) : Option (Option (Value × (Int × Int))) :=
  (Option.bind (rawLen s.1) fun (x1 : Int) =>
  (cond (decide (s.2.2.1 < x1))
    (cond (decide (s.2.2.1 < (4000 : Int)))
      (Option.bind (readAt A s.1 s.2.2.1) fun (x2 : Int) =>
      (kc (s.1, ((wr (((BitVec.toNat ((BitVec.ofInt (@Go.IntKind.bits @Go.IntKind.i64) (wr ((wr ((wr (s.2.1 * (103 : Int))) + (wr x2))) + (7 : Int)))) &&& (BitVec.ofInt (@Go.IntKind.bits @Go.IntKind.i64) (1073741823 : Int)))) : Nat) : Int)), ((wr (s.2.2.1 + (1 : Int))), ())))))
      (ke (s.1, (s.2.1, (s.2.2.1, ())))))
    (ke (s.1, (s.2.1, (s.2.2.1, ()))))))
def r_spec_l01New (A : Option (Nat × Obj)) (N : Nat) (a0 : Value) : Option (Option (Value × (Int × Int))) :=
  (Option.bind (rawLen a0) fun (x1 : Int) =>
  (iterK (r_spec_l01New_L0 A N) N (a0, ((wr ((2071 : Int) + x1)), ((0 : Int), ()))) fun (s2 : (Value × (Int × (Int × Unit)))) =>
  (some (some (s2.1, ((0 : Int), s2.2.1))))))

noncomputable def e_spec_l01New (A : Option (Nat × Obj)) (a : Value × Unit) : Option (Option (Value × Int × Int)) := r_spec_l01New A N0 a.1
def r_spec_l01Byte (A : Option (Nat × Obj)) (_N : Nat) (a0 : (Value × (Int × Int))) : Option ((Option (Value × (Int × Int))) × Int) :=
  (Option.bind (rawLen a0.1) fun (x1 : Int) =>
  (cond (decide (a0.2.1 < x1))
    (Option.bind (readAt A a0.1 a0.2.1) fun (x2 : Int) =>
    (some ((some (a0.1, ((wr (a0.2.1 + (1 : Int))), (wr ((wr (a0.2.2 * (6364136223846793005 : Int))) + (1442695040888963407 : Int)))))), (wr (((BitVec.toNat ((BitVec.ofInt (@Go.IntKind.bits @Go.IntKind.i64) (wr ((wr (((BitVec.toNat ((BitVec.ofInt (@Go.IntKind.bits @Go.IntKind.i64) (wr (((BitVec.toNat ((BitVec.ofInt (@Go.IntKind.bits @Go.IntKind.i64) (Int.fdiv (wr ((wr (a0.2.2 * (6364136223846793005 : Int))) + (1442695040888963407 : Int))) ((2 : Int) ^ (min (Int.toNat (33 : Int)) (@Go.IntKind.bits @Go.IntKind.i64))))) ^^^ (BitVec.ofInt (@Go.IntKind.bits @Go.IntKind.i64) (Int.fdiv (wr ((wr (a0.2.2 * (6364136223846793005 : Int))) + (1442695040888963407 : Int))) ((2 : Int) ^ (min (Int.toNat (45 : Int)) (@Go.IntKind.bits @Go.IntKind.i64))))))) : Nat) : Int))) &&& (BitVec.ofInt (@Go.IntKind.bits @Go.IntKind.i64) (255 : Int)))) : Nat) : Int)) + (wr x2)))) &&& (BitVec.ofInt (@Go.IntKind.bits @Go.IntKind.i64) (255 : Int)))) : Nat) : Int)))))
    (some ((some (a0.1, (a0.2.1, (wr ((wr (a0.2.2 * (6364136223846793005 : Int))) + (1442695040888963407 : Int)))))), (wr (((BitVec.toNat ((BitVec.ofInt (@Go.IntKind.bits @Go.IntKind.i64) (wr (((BitVec.toNat ((BitVec.ofInt (@Go.IntKind.bits @Go.IntKind.i64) (Int.fdiv (wr ((wr (a0.2.2 * (6364136223846793005 : Int))) + (1442695040888963407 : Int))) ((2 : Int) ^ (min (Int.toNat (33 : Int)) (@Go.IntKind.bits @Go.IntKind.i64))))) ^^^ (BitVec.ofInt (@Go.IntKind.bits @Go.IntKind.i64) (Int.fdiv (wr ((wr (a0.2.2 * (6364136223846793005 : Int))) + (1442695040888963407 : Int))) ((2 : Int) ^ (min (Int.toNat (45 : Int)) (@Go.IntKind.bits @Go.IntKind.i64))))))) : Nat) : Int))) &&& (BitVec.ofInt (@Go.IntKind.bits @Go.IntKind.i64) (255 : Int)))) : Nat) : Int))))))

noncomputable def e_spec_l01Byte (A : Option (Nat × Obj)) (y : Option (Value × Int × Int)) (_ : Unit) : Option (Option (Value × Int × Int) × Int) := Option.bind y fun y => r_spec_l01Byte A N0 y
def r_spec_l01Below (k_spec_l01Byte : (Option (Value × Int × Int) → (Unit) → Option (Option (Value × Int × Int) × Int))) (_N : Nat) (a0 : (Option (Value × (Int × Int)))) (a1 : Int) : Option ((Option (Value × (Int × Int))) × Int) :=
  (cond (decide (a1 ≤ (0 : Int)))
    (some (a0, (0 : Int)))
    (cond (decide (a1 ≤ (256 : Int)))
      (Option.bind (k_spec_l01Byte a0 ()) fun (x1 : ((Option (Value × (Int × Int))) × Int)) =>
      (cond (decide (a1 = (0 : Int)))
        none
        (some (x1.1, (Int.tmod x1.2 a1)))))
      (Option.bind (k_spec_l01Byte a0 ()) fun (x2 : ((Option (Value × (Int × Int))) × Int)) =>
      (Option.bind (k_spec_l01Byte x2.1 ()) fun (x3 : ((Option (Value × (Int × Int))) × Int)) =>
      (Option.bind (k_spec_l01Byte x3.1 ()) fun (x4 : ((Option (Value × (Int × Int))) × Int)) =>
      (Option.bind (k_spec_l01Byte x4.1 ()) fun (x5 : ((Option (Value × (Int × Int))) × Int)) =>
      (cond (decide (a1 = (0 : Int)))
        none
        (some (x5.1, (Int.tmod (wr ((wr ((wr ((wr (x2.2 * (16777216 : Int))) + (wr (x3.2 * (65536 : Int))))) + (wr (x4.2 * (256 : Int))))) + x5.2)) a1))))))))))

noncomputable def e_spec_l01Below (A : Option (Nat × Obj)) (y : Option (Value × Int × Int)) (a : Int × Unit) : Option (Option (Value × Int × Int) × Int) := r_spec_l01Below (e_spec_l01Byte A) N0 y a.1
def r_spec_l03Put_L2 (_N : Nat) (s : ((List (Int × (Int × Int))) × ((Int × (Int × Int)) × (Bool × ((List (Int × (Int × Int))) × (Int × (Int × Unit))))))) (kc ke : ((List (Int × (Int × Int))) × ((Int × (Int × Int)) × (Bool × ((List (Int × (Int × Int))) × (Int × (Int × Unit)))))) → Option (List (Int × (Int × Int)))) : Option (List (Int × (Int × Int))) :=
  (cond (decide (s.2.2.2.2.2.1 < s.2.2.2.2.1))
    (Option.bind (getI s.2.2.2.1 s.2.2.2.2.2.1) fun (x1 : (Int × (Int × Int))) =>
    (cond (!s.2.2.1)
      (cond (decide (x1.1 > s.2.1.1))
        (cond (Nat.ble ((List.length s.1) + (List.length (s.2.1 :: ([] : List (Int × (Int × Int)))))) 17179869184)
          (cond (Nat.ble ((List.length (s.1 ++ (s.2.1 :: ([] : List (Int × (Int × Int)))))) + (List.length (x1 :: ([] : List (Int × (Int × Int)))))) 17179869184)
            (kc (((s.1 ++ (s.2.1 :: ([] : List (Int × (Int × Int))))) ++ (x1 :: ([] : List (Int × (Int × Int))))), (s.2.1, (true, (s.2.2.2.1, (s.2.2.2.2.1, ((wr (s.2.2.2.2.2.1 + (1 : Int))), ())))))))
            none)
          none)
        (cond (decide (x1.1 = s.2.1.1))
          (cond (decide (x1.2.1 > s.2.1.2.1))
            (cond (Nat.ble ((List.length s.1) + (List.length (s.2.1 :: ([] : List (Int × (Int × Int)))))) 17179869184)
              (cond (Nat.ble ((List.length (s.1 ++ (s.2.1 :: ([] : List (Int × (Int × Int)))))) + (List.length (x1 :: ([] : List (Int × (Int × Int)))))) 17179869184)
                (kc (((s.1 ++ (s.2.1 :: ([] : List (Int × (Int × Int))))) ++ (x1 :: ([] : List (Int × (Int × Int))))), (s.2.1, (true, (s.2.2.2.1, (s.2.2.2.2.1, ((wr (s.2.2.2.2.2.1 + (1 : Int))), ())))))))
                none)
              none)
            (cond (Nat.ble ((List.length s.1) + (List.length (x1 :: ([] : List (Int × (Int × Int)))))) 17179869184)
              (kc ((s.1 ++ (x1 :: ([] : List (Int × (Int × Int))))), (s.2.1, (s.2.2.1, (s.2.2.2.1, (s.2.2.2.2.1, ((wr (s.2.2.2.2.2.1 + (1 : Int))), ())))))))
              none))
          (cond (Nat.ble ((List.length s.1) + (List.length (x1 :: ([] : List (Int × (Int × Int)))))) 17179869184)
            (kc ((s.1 ++ (x1 :: ([] : List (Int × (Int × Int))))), (s.2.1, (s.2.2.1, (s.2.2.2.1, (s.2.2.2.2.1, ((wr (s.2.2.2.2.2.1 + (1 : Int))), ())))))))
            none)))
      (cond (Nat.ble ((List.length s.1) + (List.length (x1 :: ([] : List (Int × (Int × Int)))))) 17179869184)
        (kc ((s.1 ++ (x1 :: ([] : List (Int × (Int × Int))))), (s.2.1, (s.2.2.1, (s.2.2.2.1, (s.2.2.2.2.1, ((wr (s.2.2.2.2.2.1 + (1 : Int))), ())))))))
        none)))
    (ke (s.1, (s.2.1, (s.2.2.1, (s.2.2.2.1, (s.2.2.2.2.1, (s.2.2.2.2.2.1, ()))))))))
def r_spec_l03Put_L0 (_N : Nat) (s : (Bool × ((List (Int × (Int × Int))) × ((Int × (Int × Int)) × (Bool × ((List (Int × (Int × Int))) × (Int × (Int × Unit)))))))) (kc ke : (Bool × ((List (Int × (Int × Int))) × ((Int × (Int × Int)) × (Bool × ((List (Int × (Int × Int))) × (Int × (Int × Unit))))))) → Option (List (Int × (Int × Int)))) : Option (List (Int × (Int × Int))) :=
  (cond (decide (s.2.2.2.2.2.2.1 < s.2.2.2.2.2.1))
    (Option.bind (getI s.2.2.2.2.1 s.2.2.2.2.2.2.1) fun (x1 : (Int × (Int × Int))) =>
    (cond (decide (x1.1 = s.2.2.1.1))
      (cond (decide (x1.2.1 = s.2.2.1.2.1))
        (cond s.1
          (kc (s.1, (s.2.1, ((s.2.2.1.1, (s.2.2.1.2.1, (wr (s.2.2.1.2.2 + x1.2.2)))), (s.2.2.2.1, (s.2.2.2.2.1, (s.2.2.2.2.2.1, ((wr (s.2.2.2.2.2.2.1 + (1 : Int))), ()))))))))
          (kc (s.1, (s.2.1, (s.2.2.1, (s.2.2.2.1, (s.2.2.2.2.1, (s.2.2.2.2.2.1, ((wr (s.2.2.2.2.2.2.1 + (1 : Int))), ())))))))))
        (cond (Nat.ble ((List.length s.2.1) + (List.length (x1 :: ([] : List (Int × (Int × Int)))))) 17179869184)
          (kc (s.1, ((s.2.1 ++ (x1 :: ([] : List (Int × (Int × Int))))), (s.2.2.1, (s.2.2.2.1, (s.2.2.2.2.1, (s.2.2.2.2.2.1, ((wr (s.2.2.2.2.2.2.1 + (1 : Int))), ()))))))))
          none))
      (cond (Nat.ble ((List.length s.2.1) + (List.length (x1 :: ([] : List (Int × (Int × Int)))))) 17179869184)
        (kc (s.1, ((s.2.1 ++ (x1 :: ([] : List (Int × (Int × Int))))), (s.2.2.1, (s.2.2.2.1, (s.2.2.2.2.1, (s.2.2.2.2.2.1, ((wr (s.2.2.2.2.2.2.1 + (1 : Int))), ()))))))))
        none)))
    (ke (s.1, (s.2.1, (s.2.2.1, (s.2.2.2.1, (s.2.2.2.2.1, (s.2.2.2.2.2.1, (s.2.2.2.2.2.2.1, ())))))))))
def r_spec_l03Put (N : Nat) (a0 : (List (Int × (Int × Int)))) (a1 : Int) (a2 : Int) (a3 : Int) (a4 : Bool) : Option (List (Int × (Int × Int))) :=
  (iterK (r_spec_l03Put_L0 N) N (a4, (([] : List (Int × (Int × Int))), (((@ite @Int (a2 < a1) (@Int.decLt a2 a1) a2 a1), ((@ite @Int (a2 > a1) (@Int.decLt a1 a2) a2 a1), a3)), (false, (a0, ((((List.length a0) : Nat) : Int), ((0 : Int), ()))))))) fun (s1 : (Bool × ((List (Int × (Int × Int))) × ((Int × (Int × Int)) × (Bool × ((List (Int × (Int × Int))) × (Int × (Int × Unit)))))))) =>
  (iterK (r_spec_l03Put_L2 N) N (([] : List (Int × (Int × Int))), (s1.2.2.1, (s1.2.2.2.1, (s1.2.1, ((((List.length s1.2.1) : Nat) : Int), ((0 : Int), ())))))) fun (s2 : ((List (Int × (Int × Int))) × ((Int × (Int × Int)) × (Bool × ((List (Int × (Int × Int))) × (Int × (Int × Unit))))))) =>
  (cond (!s2.2.2.1)
    (cond (Nat.ble ((List.length s2.1) + (List.length (s2.2.1 :: ([] : List (Int × (Int × Int)))))) 17179869184)
      (some (s2.1 ++ (s2.2.1 :: ([] : List (Int × (Int × Int))))))
      none)
    (some s2.1))))

noncomputable def e_spec_l03Put (a : (List (Int × Int × Int)) × Int × Int × Int × Bool × Unit) : Option (List (Int × Int × Int)) := r_spec_l03Put N0 a.1 a.2.1 a.2.2.1 a.2.2.2.1 a.2.2.2.2.1
def r_spec_l03Draw_L2 (k_spec_l01Below : (Option (Value × Int × Int) → (Int × Unit) → Option (Option (Value × Int × Int) × Int))) (c_spec_l03Put : ((List (Int × Int × Int)) × Int × Int × Int × Bool × Unit → Option (List (Int × Int × Int)))) (_N : Nat) (s : ((Option (Value × (Int × Int))) × ((Int × (Int × (Int × (List (Int × (Int × Int)))))) × ((Int × (Int × (Int × (List (Int × (Int × Int)))))) × (Int × Unit))))) (kc ke : ((Option (Value × (Int × Int))) × ((Int × (Int × (Int × (List (Int × (Int × Int)))))) × ((Int × (Int × (Int × (List (Int × (Int × Int)))))) × (Int × Unit)))) → Option ((Option (Value × (Int × Int))) × (Int × (Int × (Int × (List (Int × (Int × Int)))))))) : Option ((Option (Value × (Int × Int))) × (Int × (Int × (Int × (List (Int × (Int × Int))))))) :=
  (cond (decide (s.2.2.2.1 > (0 : Int)))
    (Option.bind (k_spec_l01Below s.1 (s.2.2.1.1, ())) fun (x1 : ((Option (Value × (Int × Int))) × Int)) =>
    (Option.bind (k_spec_l01Below x1.1 (s.2.2.1.1, ())) fun (x2 : ((Option (Value × (Int × Int))) × Int)) =>
    (cond (!(decide (x1.2 = x2.2)))
      (Option.bind (k_spec_l01Below x2.1 ((6 : Int), ())) fun (x3 : ((Option (Value × (Int × Int))) × Int)) =>
      (Option.bind (c_spec_l03Put (s.2.2.1.2.2.2, (x1.2, (x2.2, ((wr ((1 : Int) + x3.2)), (false, ())))))) fun (x4 : (List (Int × (Int × Int)))) =>
      (kc (x3.1, (s.2.1, ((s.2.2.1.1, (s.2.2.1.2.1, (s.2.2.1.2.2.1, x4))), ((wr (s.2.2.2.1 - (1 : Int))), ())))))))
      (kc (x2.1, (s.2.1, (s.2.2.1, ((wr (s.2.2.2.1 - (1 : Int))), ()))))))))
    (ke (s.1, (s.2.1, (s.2.2.1, (s.2.2.2.1, ()))))))
def r_spec_l03Draw_L0 (k_spec_l01Below : (Option (Value × Int × Int) → (Int × Unit) → Option (Option (Value × Int × Int) × Int))) (c_spec_l03Put : ((List (Int × Int × Int)) × Int × Int × Int × Bool × Unit → Option (List (Int × Int × Int)))) (_N : Nat) (s : ((Option (Value × (Int × Int))) × ((Int × (Int × (Int × (List (Int × (Int × Int)))))) × ((Int × (Int × (Int × (List (Int × (Int × Int)))))) × (Int × Unit))))) (kc ke : ((Option (Value × (Int × Int))) × ((Int × (Int × (Int × (List (Int × (Int × Int)))))) × ((Int × (Int × (Int × (List (Int × (Int × Int)))))) × (Int × Unit)))) → Option ((Option (Value × (Int × Int))) × (Int × (Int × (Int × (List (Int × (Int × Int)))))))) : Option ((Option (Value × (Int × Int))) × (Int × (Int × (Int × (List (Int × (Int × Int))))))) :=
  (cond (decide (s.2.2.2.1 < s.2.2.1.1))
    (Option.bind (k_spec_l01Below s.1 (s.2.2.2.1, ())) fun (x1 : ((Option (Value × (Int × Int))) × Int)) =>
    (Option.bind (k_spec_l01Below x1.1 ((6 : Int), ())) fun (x2 : ((Option (Value × (Int × Int))) × Int)) =>
    (Option.bind (c_spec_l03Put (s.2.2.1.2.2.2, (x1.2, (s.2.2.2.1, ((wr ((1 : Int) + x2.2)), (false, ())))))) fun (x3 : (List (Int × (Int × Int)))) =>
    (kc (x2.1, (s.2.1, ((s.2.2.1.1, (s.2.2.1.2.1, (s.2.2.1.2.2.1, x3))), ((wr (s.2.2.2.1 + (1 : Int))), ()))))))))
    (ke (s.1, (s.2.1, (s.2.2.1, (s.2.2.2.1, ()))))))
def r_spec_l03Draw (k_spec_l01Below : (Option (Value × Int × Int) → (Int × Unit) → Option (Option (Value × Int × Int) × Int))) (c_spec_l03Put : ((List (Int × Int × Int)) × Int × Int × Int × Bool × Unit → Option (List (Int × Int × Int)))) (N : Nat) (a0 : (Option (Value × (Int × Int)))) (a1 : Int) : Option ((Option (Value × (Int × Int))) × (Int × (Int × (Int × (List (Int × (Int × Int))))))) :=
  (Option.bind (k_spec_l01Below a0 ((wr (a1 - (1 : Int))), ())) fun (x1 : ((Option (Value × (Int × Int))) × Int)) =>
  (Option.bind (k_spec_l01Below x1.1 ((3 : Int), ())) fun (x2 : ((Option (Value × (Int × Int))) × Int)) =>
  (cond (decide ((wr ((2 : Int) + x1.2)) > (2 : Int)))
    (Option.bind (k_spec_l01Below x2.1 ((wr ((wr ((2 : Int) + x1.2)) - (1 : Int))), ())) fun (x3 : ((Option (Value × (Int × Int))) × Int)) =>
    (iterK (r_spec_l03Draw_L0 k_spec_l01Below c_spec_l03Put N) N (x3.1, (((0 : Int), ((0 : Int), ((0 : Int), ([] : List (Int × (Int × Int)))))), (((wr ((2 : Int) + x1.2)), ((wr ((2 : Int) + x3.2)), ((wr ((1 : Int) + x2.2)), ([] : List (Int × (Int × Int)))))), ((1 : Int), ())))) fun (s4 : ((Option (Value × (Int × Int))) × ((Int × (Int × (Int × (List (Int × (Int × Int)))))) × ((Int × (Int × (Int × (List (Int × (Int × Int)))))) × (Int × Unit))))) =>
    (Option.bind (k_spec_l01Below s4.1 ((4 : Int), ())) fun (x5 : ((Option (Value × (Int × Int))) × Int)) =>
    (iterK (r_spec_l03Draw_L2 k_spec_l01Below c_spec_l03Put N) N (x5.1, (s4.2.1, (s4.2.2.1, (x5.2, ())))) fun (s6 : ((Option (Value × (Int × Int))) × ((Int × (Int × (Int × (List (Int × (Int × Int)))))) × ((Int × (Int × (Int × (List (Int × (Int × Int)))))) × (Int × Unit))))) =>
    (some (s6.1, s6.2.2.1))))))
    (iterK (r_spec_l03Draw_L0 k_spec_l01Below c_spec_l03Put N) N (x2.1, (((0 : Int), ((0 : Int), ((0 : Int), ([] : List (Int × (Int × Int)))))), (((wr ((2 : Int) + x1.2)), ((2 : Int), ((wr ((1 : Int) + x2.2)), ([] : List (Int × (Int × Int)))))), ((1 : Int), ())))) fun (s7 : ((Option (Value × (Int × Int))) × ((Int × (Int × (Int × (List (Int × (Int × Int)))))) × ((Int × (Int × (Int × (List (Int × (Int × Int)))))) × (Int × Unit))))) =>
    (Option.bind (k_spec_l01Below s7.1 ((4 : Int), ())) fun (x8 : ((Option (Value × (Int × Int))) × Int)) =>
    (iterK (r_spec_l03Draw_L2 k_spec_l01Below c_spec_l03Put N) N (x8.1, (s7.2.1, (s7.2.2.1, (x8.2, ())))) fun (s9 : ((Option (Value × (Int × Int))) × ((Int × (Int × (Int × (List (Int × (Int × Int)))))) × ((Int × (Int × (Int × (List (Int × (Int × Int)))))) × (Int × Unit))))) =>
    (some (s9.1, s9.2.2.1))))))))

noncomputable def e_spec_l03Draw (A : Option (Nat × Obj)) (y : Option (Value × Int × Int)) (a : Int × Unit) : Option (Option (Value × Int × Int) × (Int × Int × Int × List (Int × Int × Int))) := r_spec_l03Draw (e_spec_l01Below A) e_spec_l03Put N0 y a.1
def r_spec_l08Triangle (k_spec_l03Draw : (Option (Value × Int × Int) → (Int × Unit) → Option (Option (Value × Int × Int) × (Int × Int × Int × List (Int × Int × Int))))) (k_spec_l01Below : (Option (Value × Int × Int) → (Int × Unit) → Option (Option (Value × Int × Int) × Int))) (c_spec_l03Put : ((List (Int × Int × Int)) × Int × Int × Int × Bool × Unit → Option (List (Int × Int × Int)))) (_N : Nat) (a0 : (Option (Value × (Int × Int)))) : Option ((Option (Value × (Int × Int))) × ((Int × (Int × (Int × (List (Int × (Int × Int)))))) × (Int × (Int × Int)))) :=
  (Option.bind (k_spec_l03Draw a0 ((5 : Int), ())) fun (x1 : ((Option (Value × (Int × Int))) × (Int × (Int × (Int × (List (Int × (Int × Int)))))))) =>
  (cond (decide (x1.2.1 < (3 : Int)))
    (Option.bind (k_spec_l01Below x1.1 ((wr ((3 : Int) - (2 : Int))), ())) fun (x2 : ((Option (Value × (Int × Int))) × Int)) =>
    (Option.bind (k_spec_l01Below x2.1 ((wr ((wr ((3 : Int) - (2 : Int))) - x2.2)), ())) fun (x3 : ((Option (Value × (Int × Int))) × Int)) =>
    (Option.bind (k_spec_l01Below x3.1 ((wr ((wr ((3 : Int) - (1 : Int))) - (wr ((wr (x2.2 + (1 : Int))) + x3.2)))), ())) fun (x4 : ((Option (Value × (Int × Int))) × Int)) =>
    (Option.bind (k_spec_l01Below x4.1 ((4 : Int), ())) fun (x5 : ((Option (Value × (Int × Int))) × Int)) =>
    (Option.bind (c_spec_l03Put (x1.2.2.2.2, (x2.2, ((wr ((wr (x2.2 + (1 : Int))) + x3.2)), ((wr ((1 : Int) + x5.2)), (false, ())))))) fun (x6 : (List (Int × (Int × Int)))) =>
    (Option.bind (k_spec_l01Below x5.1 ((4 : Int), ())) fun (x7 : ((Option (Value × (Int × Int))) × Int)) =>
    (Option.bind (c_spec_l03Put (x6, ((wr ((wr (x2.2 + (1 : Int))) + x3.2)), ((wr ((wr ((wr ((wr (x2.2 + (1 : Int))) + x3.2)) + (1 : Int))) + x4.2)), ((wr ((1 : Int) + x7.2)), (false, ())))))) fun (x8 : (List (Int × (Int × Int)))) =>
    (Option.bind (k_spec_l01Below x7.1 ((4 : Int), ())) fun (x9 : ((Option (Value × (Int × Int))) × Int)) =>
    (Option.bind (c_spec_l03Put (x8, (x2.2, ((wr ((wr ((wr ((wr (x2.2 + (1 : Int))) + x3.2)) + (1 : Int))) + x4.2)), ((wr ((1 : Int) + x9.2)), (false, ())))))) fun (x10 : (List (Int × (Int × Int)))) =>
    (some (x9.1, (((3 : Int), (x1.2.2.1, (x1.2.2.2.1, x10))), (x2.2, ((wr ((wr (x2.2 + (1 : Int))) + x3.2)), (wr ((wr ((wr ((wr (x2.2 + (1 : Int))) + x3.2)) + (1 : Int))) + x4.2))))))))))))))))
    (Option.bind (k_spec_l01Below x1.1 ((wr (x1.2.1 - (2 : Int))), ())) fun (x11 : ((Option (Value × (Int × Int))) × Int)) =>
    (Option.bind (k_spec_l01Below x11.1 ((wr ((wr (x1.2.1 - (2 : Int))) - x11.2)), ())) fun (x12 : ((Option (Value × (Int × Int))) × Int)) =>
    (Option.bind (k_spec_l01Below x12.1 ((wr ((wr (x1.2.1 - (1 : Int))) - (wr ((wr (x11.2 + (1 : Int))) + x12.2)))), ())) fun (x13 : ((Option (Value × (Int × Int))) × Int)) =>
    (Option.bind (k_spec_l01Below x13.1 ((4 : Int), ())) fun (x14 : ((Option (Value × (Int × Int))) × Int)) =>
    (Option.bind (c_spec_l03Put (x1.2.2.2.2, (x11.2, ((wr ((wr (x11.2 + (1 : Int))) + x12.2)), ((wr ((1 : Int) + x14.2)), (false, ())))))) fun (x15 : (List (Int × (Int × Int)))) =>
    (Option.bind (k_spec_l01Below x14.1 ((4 : Int), ())) fun (x16 : ((Option (Value × (Int × Int))) × Int)) =>
    (Option.bind (c_spec_l03Put (x15, ((wr ((wr (x11.2 + (1 : Int))) + x12.2)), ((wr ((wr ((wr ((wr (x11.2 + (1 : Int))) + x12.2)) + (1 : Int))) + x13.2)), ((wr ((1 : Int) + x16.2)), (false, ())))))) fun (x17 : (List (Int × (Int × Int)))) =>
    (Option.bind (k_spec_l01Below x16.1 ((4 : Int), ())) fun (x18 : ((Option (Value × (Int × Int))) × Int)) =>
    (Option.bind (c_spec_l03Put (x17, (x11.2, ((wr ((wr ((wr ((wr (x11.2 + (1 : Int))) + x12.2)) + (1 : Int))) + x13.2)), ((wr ((1 : Int) + x18.2)), (false, ())))))) fun (x19 : (List (Int × (Int × Int)))) =>
    (some (x18.1, ((x1.2.1, (x1.2.2.1, (x1.2.2.2.1, x19))), (x11.2, ((wr ((wr (x11.2 + (1 : Int))) + x12.2)), (wr ((wr ((wr ((wr (x11.2 + (1 : Int))) + x12.2)) + (1 : Int))) + x13.2))))))))))))))))))

noncomputable def e_spec_l08Triangle (A : Option (Nat × Obj)) (y : Option (Value × Int × Int)) (_ : Unit) : Option (Option (Value × Int × Int) × ((Int × Int × Int × List (Int × Int × Int)) × (Int × (Int × Int)))) := r_spec_l08Triangle (e_spec_l03Draw A) (e_spec_l01Below A) e_spec_l03Put N0 y
def r_spec_l01In (_N : Nat) (a0 : Int) (a1 : Int) (a2 : Int) : Option Bool :=
  (cond (decide (a0 ≥ a1))
    (some (decide (a0 ≤ a2)))
    (some false))

noncomputable def e_spec_l01In (a : Int × Int × Int × Unit) : Option Bool := r_spec_l01In N0 a.1 a.2.1 a.2.2.1
def r_spec_l03Has_L0 (_N : Nat) (s : (Int × ((List Int) × (Int × (Int × Unit))))) (kc ke : (Int × ((List Int) × (Int × (Int × Unit)))) → Option Bool) : Option Bool :=
  (cond (decide (s.2.2.2.1 < s.2.2.1))
    (Option.bind (getI s.2.1 s.2.2.2.1) fun (x1 : Int) =>
    (cond (decide (x1 = s.1))
      (some true)
      (kc (s.1, (s.2.1, (s.2.2.1, ((wr (s.2.2.2.1 + (1 : Int))), ())))))))
    (ke (s.1, (s.2.1, (s.2.2.1, (s.2.2.2.1, ()))))))
def r_spec_l03Has (N : Nat) (a0 : (List Int)) (a1 : Int) : Option Bool :=
  (iterK (r_spec_l03Has_L0 N) N (a1, (a0, ((((List.length a0) : Nat) : Int), ((0 : Int), ())))) fun (_s1 : (Int × ((List Int) × (Int × (Int × Unit))))) =>
  (some false))

noncomputable def e_spec_l03Has (a : (List Int) × Int × Unit) : Option Bool := r_spec_l03Has N0 a.1 a.2.1
def r_spec_l03Reach_L2 (c_spec_l03Has : ((List Int) × Int × Unit → Option Bool)) (_N : Nat) (s : ((List (Int × (Int × Int))) × ((List Int) × (Int × ((List (Int × (Int × Int))) × (Int × (Int × Unit))))))) (kc ke : ((List (Int × (Int × Int))) × ((List Int) × (Int × ((List (Int × (Int × Int))) × (Int × (Int × Unit)))))) → Option (List Int)) : Option (List Int) :=
  (cond (decide (s.2.2.2.2.2.1 < s.2.2.2.2.1))
    (Option.bind (getI s.2.2.2.1 s.2.2.2.2.2.1) fun (x1 : (Int × (Int × Int))) =>
    (Option.bind (getI s.2.1 s.2.2.1) fun (x2 : Int) =>
    (cond (decide (x1.1 = x2))
      (Option.bind (c_spec_l03Has (s.2.1, (x1.2.1, ()))) fun (x3 : Bool) =>
      (cond (!x3)
        (cond (Nat.ble ((List.length s.2.1) + (List.length (x1.2.1 :: ([] : List Int)))) 17179869184)
          (Option.bind (getI (s.2.1 ++ (x1.2.1 :: ([] : List Int))) s.2.2.1) fun (x4 : Int) =>
          (cond (decide (x1.2.1 = x4))
            (Option.bind (c_spec_l03Has ((s.2.1 ++ (x1.2.1 :: ([] : List Int))), (x1.1, ()))) fun (x5 : Bool) =>
            (cond (!x5)
              (cond (Nat.ble ((List.length (s.2.1 ++ (x1.2.1 :: ([] : List Int)))) + (List.length (x1.1 :: ([] : List Int)))) 17179869184)
                (kc (s.1, (((s.2.1 ++ (x1.2.1 :: ([] : List Int))) ++ (x1.1 :: ([] : List Int))), (s.2.2.1, (s.2.2.2.1, (s.2.2.2.2.1, ((wr (s.2.2.2.2.2.1 + (1 : Int))), ())))))))
                none)
              (kc (s.1, ((s.2.1 ++ (x1.2.1 :: ([] : List Int))), (s.2.2.1, (s.2.2.2.1, (s.2.2.2.2.1, ((wr (s.2.2.2.2.2.1 + (1 : Int))), ())))))))))
            (kc (s.1, ((s.2.1 ++ (x1.2.1 :: ([] : List Int))), (s.2.2.1, (s.2.2.2.1, (s.2.2.2.2.1, ((wr (s.2.2.2.2.2.1 + (1 : Int))), ())))))))))
          none)
        (Option.bind (getI s.2.1 s.2.2.1) fun (x6 : Int) =>
        (cond (decide (x1.2.1 = x6))
          (Option.bind (c_spec_l03Has (s.2.1, (x1.1, ()))) fun (x7 : Bool) =>
          (cond (!x7)
            (cond (Nat.ble ((List.length s.2.1) + (List.length (x1.1 :: ([] : List Int)))) 17179869184)
              (kc (s.1, ((s.2.1 ++ (x1.1 :: ([] : List Int))), (s.2.2.1, (s.2.2.2.1, (s.2.2.2.2.1, ((wr (s.2.2.2.2.2.1 + (1 : Int))), ())))))))
              none)
            (kc (s.1, (s.2.1, (s.2.2.1, (s.2.2.2.1, (s.2.2.2.2.1, ((wr (s.2.2.2.2.2.1 + (1 : Int))), ())))))))))
          (kc (s.1, (s.2.1, (s.2.2.1, (s.2.2.2.1, (s.2.2.2.2.1, ((wr (s.2.2.2.2.2.1 + (1 : Int))), ())))))))))))
      (Option.bind (getI s.2.1 s.2.2.1) fun (x8 : Int) =>
      (cond (decide (x1.2.1 = x8))
        (Option.bind (c_spec_l03Has (s.2.1, (x1.1, ()))) fun (x9 : Bool) =>
        (cond (!x9)
          (cond (Nat.ble ((List.length s.2.1) + (List.length (x1.1 :: ([] : List Int)))) 17179869184)
            (kc (s.1, ((s.2.1 ++ (x1.1 :: ([] : List Int))), (s.2.2.1, (s.2.2.2.1, (s.2.2.2.2.1, ((wr (s.2.2.2.2.2.1 + (1 : Int))), ())))))))
            none)
          (kc (s.1, (s.2.1, (s.2.2.1, (s.2.2.2.1, (s.2.2.2.2.1, ((wr (s.2.2.2.2.2.1 + (1 : Int))), ())))))))))
        (kc (s.1, (s.2.1, (s.2.2.1, (s.2.2.2.1, (s.2.2.2.2.1, ((wr (s.2.2.2.2.2.1 + (1 : Int))), ()))))))))))))
    (ke (s.1, (s.2.1, (s.2.2.1, (s.2.2.2.1, (s.2.2.2.2.1, (s.2.2.2.2.2.1, ()))))))))
def r_spec_l03Reach_L0 (c_spec_l03Has : ((List Int) × Int × Unit → Option Bool)) (N : Nat) (s : ((List (Int × (Int × Int))) × ((List Int) × (Int × Unit)))) (kc ke : ((List (Int × (Int × Int))) × ((List Int) × (Int × Unit))) → Option (List Int)) : Option (List Int) :=
  (cond (decide (s.2.2.1 < (((List.length s.2.1) : Nat) : Int)))
    (iterK (r_spec_l03Reach_L2 c_spec_l03Has N) N (s.1, (s.2.1, (s.2.2.1, (s.1, ((((List.length s.1) : Nat) : Int), ((0 : Int), ())))))) fun (s1 : ((List (Int × (Int × Int))) × ((List Int) × (Int × ((List (Int × (Int × Int))) × (Int × (Int × Unit))))))) =>
    (kc (s1.1, (s1.2.1, ((wr (s1.2.2.1 + (1 : Int))), ())))))
    (ke (s.1, (s.2.1, (s.2.2.1, ())))))
def r_spec_l03Reach (c_spec_l03Has : ((List Int) × Int × Unit → Option Bool)) (N : Nat) (a0 : (List (Int × (Int × Int)))) (a1 : Int) : Option (List Int) :=
  (iterK (r_spec_l03Reach_L0 c_spec_l03Has N) N (a0, ((a1 :: ([] : List Int)), ((0 : Int), ()))) fun (s1 : ((List (Int × (Int × Int))) × ((List Int) × (Int × Unit)))) =>
  (some s1.2.1))

noncomputable def e_spec_l03Reach (a : (List (Int × Int × Int)) × Int × Unit) : Option (List Int) := r_spec_l03Reach e_spec_l03Has N0 a.1 a.2.1
def r_spec_NetOk_L0 (c_spec_l01In : (Int × Int × Int × Unit → Option Bool)) (_c_spec_l03Reach : ((List (Int × Int × Int)) × Int × Unit → Option (List Int))) (_N : Nat) (s : ((Int × (Int × (Int × (List (Int × (Int × Int)))))) × ((List (Int × (Int × Int))) × (Int × (Int × Unit))))) (kc ke : ((Int × (Int × (Int × (List (Int × (Int × Int)))))) × ((List (Int × (Int × Int))) × (Int × (Int × Unit)))) → Option Bool) : Option Bool :=
  (cond (decide (s.2.2.2.1 < s.2.2.1))
    (Option.bind (getI s.2.1 s.2.2.2.1) fun (x1 : (Int × (Int × Int))) =>
    (Option.bind (c_spec_l01In (x1.1, ((0 : Int), ((wr (s.1.1 - (1 : Int))), ())))) fun (x2 : Bool) =>
    (cond (!x2)
      (some false)
      (Option.bind (c_spec_l01In (x1.2.1, ((wr (x1.1 + (1 : Int))), ((wr (s.1.1 - (1 : Int))), ())))) fun (x3 : Bool) =>
      (cond (!x3)
        (some false)
        (Option.bind (c_spec_l01In (x1.2.2, ((1 : Int), ((200 : Int), ())))) fun (x4 : Bool) =>
        (cond (!x4)
          (some false)
          (cond (decide (s.2.2.2.1 > (0 : Int)))
            (Option.bind (getI s.1.2.2.2 (wr (s.2.2.2.1 - (1 : Int)))) fun (x5 : (Int × (Int × Int))) =>
            (cond (decide (x1.1 < x5.1))
              (some false)
              (Option.bind (getI s.1.2.2.2 (wr (s.2.2.2.1 - (1 : Int)))) fun (x6 : (Int × (Int × Int))) =>
              (cond (decide (x1.1 = x6.1))
                (Option.bind (getI s.1.2.2.2 (wr (s.2.2.2.1 - (1 : Int)))) fun (x7 : (Int × (Int × Int))) =>
                (cond (decide (x1.2.1 ≤ x7.2.1))
                  (some false)
                  (kc (s.1, (s.2.1, (s.2.2.1, ((wr (s.2.2.2.1 + (1 : Int))), ())))))))
                (kc (s.1, (s.2.1, (s.2.2.1, ((wr (s.2.2.2.1 + (1 : Int))), ())))))))))
            (kc (s.1, (s.2.1, (s.2.2.1, ((wr (s.2.2.2.1 + (1 : Int))), ())))))))))))))
    (ke (s.1, (s.2.1, (s.2.2.1, (s.2.2.2.1, ()))))))
def r_spec_NetOk (c_spec_l01In : (Int × Int × Int × Unit → Option Bool)) (c_spec_l03Reach : ((List (Int × Int × Int)) × Int × Unit → Option (List Int))) (N : Nat) (a0 : (Int × (Int × (Int × (List (Int × (Int × Int))))))) : Option Bool :=
  (Option.bind (c_spec_l01In (a0.1, ((1 : Int), ((5 : Int), ())))) fun (x1 : Bool) =>
  (cond (!x1)
    (some false)
    (Option.bind (c_spec_l01In (a0.2.1, ((1 : Int), (a0.1, ())))) fun (x2 : Bool) =>
    (cond (!x2)
      (some false)
      (Option.bind (c_spec_l01In (a0.2.2.1, ((1 : Int), ((1000 : Int), ())))) fun (x3 : Bool) =>
      (cond (!x3)
        (some false)
        (iterK (r_spec_NetOk_L0 c_spec_l01In c_spec_l03Reach N) N (a0, (a0.2.2.2, ((((List.length a0.2.2.2) : Nat) : Int), ((0 : Int), ())))) fun (s4 : ((Int × (Int × (Int × (List (Int × (Int × Int)))))) × ((List (Int × (Int × Int))) × (Int × (Int × Unit))))) =>
        (Option.bind (c_spec_l03Reach (s4.1.2.2.2, ((0 : Int), ()))) fun (x5 : (List Int)) =>
        (some (decide ((((List.length x5) : Nat) : Int) = s4.1.1)))))))))))

noncomputable def e_spec_NetOk (a : (Int × Int × Int × List (Int × Int × Int)) × Unit) : Option Bool := r_spec_NetOk e_spec_l01In e_spec_l03Reach N0 a.1
def r_spec_MakeTriangle_L0 (_c_spec_l01New : (Value × Unit → Option (Option (Value × Int × Int)))) (k_spec_l08Triangle : (Option (Value × Int × Int) → (Unit) → Option (Option (Value × Int × Int) × ((Int × Int × Int × List (Int × Int × Int)) × (Int × (Int × Int)))))) (c_spec_NetOk : ((Int × Int × Int × List (Int × Int × Int)) × Unit → Option Bool)) (_N : Nat) (s : ((Int × (Int × (Int × (List (Int × (Int × Int)))))) × ((Option (Value × (Int × Int))) × (Int × Unit)))) (kc ke : ((Int × (Int × (Int × (List (Int × (Int × Int)))))) × ((Option (Value × (Int × Int))) × (Int × Unit))) → Option ((Int × (Int × (Int × (List (Int × (Int × Int)))))) × (Int × (Int × Int)))) : Option ((Int × (Int × (Int × (List (Int × (Int × Int)))))) × (Int × (Int × Int))) :=
  (cond (decide (s.2.2.1 < (6 : Int)))
    (Option.bind (k_spec_l08Triangle s.2.1 ()) fun (x1 : ((Option (Value × (Int × Int))) × ((Int × (Int × (Int × (List (Int × (Int × Int)))))) × (Int × (Int × Int))))) =>
    (cond (decide (x1.2.1.1 ≤ (4 : Int)))
      (Option.bind (c_spec_NetOk (x1.2.1, ())) fun (x2 : Bool) =>
      (cond x2
        (some (x1.2.1, (x1.2.2.1, (x1.2.2.2.1, x1.2.2.2.2))))
        (kc (s.1, (x1.1, ((wr (s.2.2.1 + (1 : Int))), ()))))))
      (kc (s.1, (x1.1, ((wr (s.2.2.1 + (1 : Int))), ()))))))
    (ke (s.1, (s.2.1, (s.2.2.1, ())))))
def r_spec_MakeTriangle (c_spec_l01New : (Value × Unit → Option (Option (Value × Int × Int)))) (k_spec_l08Triangle : (Option (Value × Int × Int) → (Unit) → Option (Option (Value × Int × Int) × ((Int × Int × Int × List (Int × Int × Int)) × (Int × (Int × Int)))))) (c_spec_NetOk : ((Int × Int × Int × List (Int × Int × Int)) × Unit → Option Bool)) (N : Nat) (a0 : Value) : Option ((Int × (Int × (Int × (List (Int × (Int × Int)))))) × (Int × (Int × Int))) :=
  (Option.bind (c_spec_l01New (a0, ())) fun (x1 : (Option (Value × (Int × Int)))) =>
  (iterK (r_spec_MakeTriangle_L0 c_spec_l01New k_spec_l08Triangle c_spec_NetOk N) N (((0 : Int), ((0 : Int), ((0 : Int), ([] : List (Int × (Int × Int)))))), (x1, ((0 : Int), ()))) fun (_s2 : ((Int × (Int × (Int × (List (Int × (Int × Int)))))) × ((Option (Value × (Int × Int))) × (Int × Unit)))) =>
  (some (((3 : Int), ((3 : Int), ((1 : Int), (((0 : Int), ((1 : Int), (1 : Int))) :: (((0 : Int), ((2 : Int), (2 : Int))) :: (((1 : Int), ((2 : Int), (3 : Int))) :: ([] : List (Int × (Int × Int))))))))), ((0 : Int), ((1 : Int), (2 : Int)))))))

noncomputable def e_spec_MakeTriangle (A : Option (Nat × Obj)) (a : Value × Unit) : Option ((Int × Int × Int × List (Int × Int × Int)) × (Int × (Int × Int))) := r_spec_MakeTriangle (e_spec_l01New A) (e_spec_l08Triangle A) e_spec_NetOk N0 a.1
def r_spec_l03Find_L0 (_N : Nat) (s : (Int × (Int × ((List (Int × (Int × Int))) × (Int × (Int × Unit)))))) (kc ke : (Int × (Int × ((List (Int × (Int × Int))) × (Int × (Int × Unit))))) → Option Int) : Option Int :=
  (cond (decide (s.2.2.2.2.1 < s.2.2.2.1))
    (Option.bind (getI s.2.2.1 s.2.2.2.2.1) fun (x1 : (Int × (Int × Int))) =>
    (cond (decide (x1.1 = (@ite @Int (s.2.1 < s.1) (@Int.decLt s.2.1 s.1) s.2.1 s.1)))
      (cond (decide (x1.2.1 = (@ite @Int (s.2.1 > s.1) (@Int.decLt s.1 s.2.1) s.2.1 s.1)))
        (some s.2.2.2.2.1)
        (kc (s.1, (s.2.1, (s.2.2.1, (s.2.2.2.1, ((wr (s.2.2.2.2.1 + (1 : Int))), ())))))))
      (kc (s.1, (s.2.1, (s.2.2.1, (s.2.2.2.1, ((wr (s.2.2.2.2.1 + (1 : Int))), ()))))))))
    (ke (s.1, (s.2.1, (s.2.2.1, (s.2.2.2.1, (s.2.2.2.2.1, ())))))))
def r_spec_l03Find (N : Nat) (a0 : (List (Int × (Int × Int)))) (a1 : Int) (a2 : Int) : Option Int :=
  (iterK (r_spec_l03Find_L0 N) N (a1, (a2, (a0, ((((List.length a0) : Nat) : Int), ((0 : Int), ()))))) fun (_s1 : (Int × (Int × ((List (Int × (Int × Int))) × (Int × (Int × Unit)))))) =>
  (some (-(1 : Int))))

noncomputable def e_spec_l03Find (a : (List (Int × Int × Int)) × Int × Int × Unit) : Option Int := r_spec_l03Find N0 a.1 a.2.1 a.2.2.1
def r_spec_WeightBetween (c_spec_l03Find : ((List (Int × Int × Int)) × Int × Int × Unit → Option Int)) (_N : Nat) (a0 : (Int × (Int × (Int × (List (Int × (Int × Int))))))) (a1 : Int) (a2 : Int) : Option Int :=
  (Option.bind (c_spec_l03Find (a0.2.2.2, (a1, (a2, ())))) fun (x1 : Int) =>
  (cond (decide (x1 < (0 : Int)))
    (some (0 : Int))
    (cond (decide (a1 = a2))
      (some (0 : Int))
      (Option.bind (getI a0.2.2.2 x1) fun (x2 : (Int × (Int × Int))) =>
      (some x2.2.2)))))

noncomputable def e_spec_WeightBetween (a : (Int × Int × Int × List (Int × Int × Int)) × Int × Int × Unit) : Option Int := r_spec_WeightBetween e_spec_l03Find N0 a.1 a.2.1 a.2.2.1
def r_spec_l03Drop_L0 (_N : Nat) (s : ((List (Int × (Int × Int))) × ((List (Int × (Int × Int))) × (Int × (Int × Unit))))) (kc ke : ((List (Int × (Int × Int))) × ((List (Int × (Int × Int))) × (Int × (Int × Unit)))) → Option (List (Int × (Int × Int)))) : Option (List (Int × (Int × Int))) :=
  (cond (decide (s.2.2.2.1 < s.2.2.1))
    (Option.bind (getI s.2.1 s.2.2.2.1) fun (x1 : (Int × (Int × Int))) =>
    (cond (!(decide (x1.2.2 = (0 : Int))))
      (cond (Nat.ble ((List.length s.1) + (List.length (x1 :: ([] : List (Int × (Int × Int)))))) 17179869184)
        (kc ((s.1 ++ (x1 :: ([] : List (Int × (Int × Int))))), (s.2.1, (s.2.2.1, ((wr (s.2.2.2.1 + (1 : Int))), ())))))
        none)
      (kc (s.1, (s.2.1, (s.2.2.1, ((wr (s.2.2.2.1 + (1 : Int))), ())))))))
    (ke (s.1, (s.2.1, (s.2.2.1, (s.2.2.2.1, ()))))))
def r_spec_l03Drop (N : Nat) (a0 : (List (Int × (Int × Int)))) : Option (List (Int × (Int × Int))) :=
  (iterK (r_spec_l03Drop_L0 N) N (([] : List (Int × (Int × Int))), (a0, ((((List.length a0) : Nat) : Int), ((0 : Int), ())))) fun (s1 : ((List (Int × (Int × Int))) × ((List (Int × (Int × Int))) × (Int × (Int × Unit))))) =>
  (some s1.1))

noncomputable def e_spec_l03Drop (a : (List (Int × Int × Int)) × Unit) : Option (List (Int × Int × Int)) := r_spec_l03Drop N0 a.1
def r_spec_l02Turn (_N : Nat) (a0 : Int) (a1 : Int) : Option (Int × Int) :=
  (cond (decide (a1 = (0 : Int)))
    none
    (some (a1, (Int.tmod a0 a1))))

noncomputable def e_spec_l02Turn (a : Int × Int × Unit) : Option (Int × Int) := r_spec_l02Turn N0 a.1 a.2.1
def r_spec_GcdOf_L0 (c_spec_l02Turn : (Int × Int × Unit → Option (Int × Int))) (_N : Nat) (s : (Int × (Int × Unit))) (kc ke : (Int × (Int × Unit)) → Option Int) : Option Int :=
  (cond (!(decide (s.2.1 = (0 : Int))))
    (Option.bind (c_spec_l02Turn (s.1, (s.2.1, ()))) fun (x1 : (Int × Int)) =>
    (kc (x1.1, (x1.2, ()))))
    (ke (s.1, (s.2.1, ()))))
def r_spec_GcdOf (c_spec_l02Turn : (Int × Int × Unit → Option (Int × Int))) (N : Nat) (a0 : Int) (a1 : Int) : Option Int :=
  (cond (decide (a0 < (-(9223372036854775807 : Int))))
    (some (0 : Int))
    (cond (decide (a1 < (-(9223372036854775807 : Int))))
      (some (0 : Int))
      (iterK (r_spec_GcdOf_L0 c_spec_l02Turn N) N ((@ite @Int ((wr ((0 : Int) - a0)) > a0) (@Int.decLt a0 (wr ((0 : Int) - a0))) (wr ((0 : Int) - a0)) a0), ((@ite @Int ((wr ((0 : Int) - a1)) > a1) (@Int.decLt a1 (wr ((0 : Int) - a1))) (wr ((0 : Int) - a1)) a1), ())) fun (s1 : (Int × (Int × Unit))) =>
      (some s1.1))))

noncomputable def e_spec_GcdOf (a : Int × Int × Unit) : Option Int := r_spec_GcdOf e_spec_l02Turn N0 a.1 a.2.1
def r_spec_l03Canon_L2 (_c_spec_GcdOf : (Int × Int × Unit → Option Int)) (_N : Nat) (s : ((Int × (Int × (Int × (List (Int × (Int × Int)))))) × (Int × ((Int × (Int × (Int × (List (Int × (Int × Int)))))) × ((List (Int × (Int × Int))) × (Int × (Int × Unit))))))) (kc ke : ((Int × (Int × (Int × (List (Int × (Int × Int)))))) × (Int × ((Int × (Int × (Int × (List (Int × (Int × Int)))))) × ((List (Int × (Int × Int))) × (Int × (Int × Unit)))))) → Option (Int × (Int × (Int × (List (Int × (Int × Int))))))) : Option (Int × (Int × (Int × (List (Int × (Int × Int)))))) :=
  (cond (decide (s.2.2.2.2.2.1 < s.2.2.2.2.1))
    (Option.bind (getI s.2.2.2.1 s.2.2.2.2.2.1) fun (x1 : (Int × (Int × Int))) =>
    (cond (decide (s.2.1 = (0 : Int)))
      none
      (cond (Nat.ble ((List.length s.2.2.1.2.2.2) + (List.length ((x1.1, (x1.2.1, (wr (Int.tdiv x1.2.2 s.2.1)))) :: ([] : List (Int × (Int × Int)))))) 17179869184)
        (kc (s.1, (s.2.1, ((s.2.2.1.1, (s.2.2.1.2.1, (s.2.2.1.2.2.1, (s.2.2.1.2.2.2 ++ ((x1.1, (x1.2.1, (wr (Int.tdiv x1.2.2 s.2.1)))) :: ([] : List (Int × (Int × Int)))))))), (s.2.2.2.1, (s.2.2.2.2.1, ((wr (s.2.2.2.2.2.1 + (1 : Int))), ())))))))
        none)))
    (ke (s.1, (s.2.1, (s.2.2.1, (s.2.2.2.1, (s.2.2.2.2.1, (s.2.2.2.2.2.1, ()))))))))
def r_spec_l03Canon_L0 (c_spec_GcdOf : (Int × Int × Unit → Option Int)) (_N : Nat) (s : ((Int × (Int × (Int × (List (Int × (Int × Int)))))) × ((Int × (Int × (Int × (List (Int × (Int × Int)))))) × (Int × ((List (Int × (Int × Int))) × (Int × (Int × Unit))))))) (kc ke : ((Int × (Int × (Int × (List (Int × (Int × Int)))))) × ((Int × (Int × (Int × (List (Int × (Int × Int)))))) × (Int × ((List (Int × (Int × Int))) × (Int × (Int × Unit)))))) → Option (Int × (Int × (Int × (List (Int × (Int × Int))))))) : Option (Int × (Int × (Int × (List (Int × (Int × Int)))))) :=
  (cond (decide (s.2.2.2.2.2.1 < s.2.2.2.2.1))
    (Option.bind (getI s.2.2.2.1 s.2.2.2.2.2.1) fun (x1 : (Int × (Int × Int))) =>
    (Option.bind (c_spec_GcdOf (s.2.2.1, (x1.2.2, ()))) fun (x2 : Int) =>
    (kc (s.1, (s.2.1, (x2, (s.2.2.2.1, (s.2.2.2.2.1, ((wr (s.2.2.2.2.2.1 + (1 : Int))), ())))))))))
    (ke (s.1, (s.2.1, (s.2.2.1, (s.2.2.2.1, (s.2.2.2.2.1, (s.2.2.2.2.2.1, ()))))))))
def r_spec_l03Canon (c_spec_GcdOf : (Int × Int × Unit → Option Int)) (N : Nat) (a0 : (Int × (Int × (Int × (List (Int × (Int × Int))))))) : Option (Int × (Int × (Int × (List (Int × (Int × Int)))))) :=
  (iterK (r_spec_l03Canon_L0 c_spec_GcdOf N) N (a0, (((0 : Int), ((0 : Int), ((0 : Int), ([] : List (Int × (Int × Int)))))), (a0.2.2.1, (a0.2.2.2, ((((List.length a0.2.2.2) : Nat) : Int), ((0 : Int), ())))))) fun (s1 : ((Int × (Int × (Int × (List (Int × (Int × Int)))))) × ((Int × (Int × (Int × (List (Int × (Int × Int)))))) × (Int × ((List (Int × (Int × Int))) × (Int × (Int × Unit))))))) =>
  (cond (decide (s1.2.2.1 = (0 : Int)))
    none
    (iterK (r_spec_l03Canon_L2 c_spec_GcdOf N) N (s1.2.1, (s1.2.2.1, ((s1.1.1, (s1.1.2.1, ((wr (Int.tdiv s1.1.2.2.1 s1.2.2.1)), ([] : List (Int × (Int × Int)))))), (s1.1.2.2.2, ((((List.length s1.1.2.2.2) : Nat) : Int), ((0 : Int), ())))))) fun (s2 : ((Int × (Int × (Int × (List (Int × (Int × Int)))))) × (Int × ((Int × (Int × (Int × (List (Int × (Int × Int)))))) × ((List (Int × (Int × Int))) × (Int × (Int × Unit))))))) =>
    (some s2.2.2.1))))

noncomputable def e_spec_l03Canon (a : (Int × Int × Int × List (Int × Int × Int)) × Unit) : Option (Int × Int × Int × List (Int × Int × Int)) := r_spec_l03Canon e_spec_GcdOf N0 a.1
def r_spec_l06Reduced (c_spec_l03Drop : ((List (Int × Int × Int)) × Unit → Option (List (Int × Int × Int)))) (c_spec_l03Canon : ((Int × Int × Int × List (Int × Int × Int)) × Unit → Option (Int × Int × Int × List (Int × Int × Int)))) (c_spec_NetOk : ((Int × Int × Int × List (Int × Int × Int)) × Unit → Option Bool)) (_N : Nat) (a0 : (Int × (Int × (Int × (List (Int × (Int × Int))))))) : Option ((Int × (Int × (Int × (List (Int × (Int × Int)))))) × Bool) :=
  (Option.bind (c_spec_l03Drop (a0.2.2.2, ())) fun (x1 : (List (Int × (Int × Int)))) =>
  (Option.bind (c_spec_l03Canon ((a0.1, (a0.2.1, (a0.2.2.1, x1))), ())) fun (x2 : (Int × (Int × (Int × (List (Int × (Int × Int))))))) =>
  (Option.bind (c_spec_NetOk (x2, ())) fun (x3 : Bool) =>
  (cond (!x3)
    (some (((0 : Int), ((0 : Int), ((0 : Int), ([] : List (Int × (Int × Int)))))), false))
    (some (x2, true))))))

noncomputable def e_spec_l06Reduced (a : (Int × Int × Int × List (Int × Int × Int)) × Unit) : Option ((Int × Int × Int × List (Int × Int × Int)) × Bool) := r_spec_l06Reduced e_spec_l03Drop e_spec_l03Canon e_spec_NetOk N0 a.1
def r_spec_TriangleStar_L0 (_c_spec_NetOk : ((Int × Int × Int × List (Int × Int × Int)) × Unit → Option Bool)) (_c_spec_l01In : (Int × Int × Int × Unit → Option Bool)) (_c_spec_WeightBetween : ((Int × Int × Int × List (Int × Int × Int)) × Int × Int × Unit → Option Int)) (c_spec_l03Put : ((List (Int × Int × Int)) × Int × Int × Int × Bool × Unit → Option (List (Int × Int × Int)))) (_c_spec_l06Reduced : ((Int × Int × Int × List (Int × Int × Int)) × Unit → Option ((Int × Int × Int × List (Int × Int × Int)) × Bool))) (_N : Nat) (s : (Int × (Int × (Int × ((Int × (Int × (Int × (List (Int × (Int × Int)))))) × ((Int × (Int × (Int × (List (Int × (Int × Int)))))) × (Int × (Int × (Int × (Int × ((Int × (Int × (Int × (List (Int × (Int × Int)))))) × ((List (Int × (Int × Int))) × (Int × (Int × Unit)))))))))))))) (kc ke : (Int × (Int × (Int × ((Int × (Int × (Int × (List (Int × (Int × Int)))))) × ((Int × (Int × (Int × (List (Int × (Int × Int)))))) × (Int × (Int × (Int × (Int × ((Int × (Int × (Int × (List (Int × (Int × Int)))))) × ((List (Int × (Int × Int))) × (Int × (Int × Unit))))))))))))) → Option ((Int × (Int × (Int × (List (Int × (Int × Int)))))) × Bool)) : Option ((Int × (Int × (Int × (List (Int × (Int × Int)))))) × Bool) :=
  (cond (decide (s.2.2.2.2.2.2.2.2.2.2.2.2.1 < s.2.2.2.2.2.2.2.2.2.2.2.1))
    (Option.bind (getI s.2.2.2.2.2.2.2.2.2.2.1 s.2.2.2.2.2.2.2.2.2.2.2.2.1) fun (x1 : (Int × (Int × Int))) =>
    (cond (!(decide (x1.1 = s.1)))
      (cond (!(decide (x1.1 = s.2.1)))
        (Option.bind (c_spec_l03Put (s.2.2.2.2.2.2.2.2.2.1.2.2.2, (x1.1, (x1.2.1, ((wr ((wr ((wr (x1.2.2 * s.2.2.2.2.2.1)) * s.2.2.2.2.2.2.1)) * s.2.2.2.2.2.2.2.1)), (true, ())))))) fun (x2 : (List (Int × (Int × Int)))) =>
        (kc (s.1, (s.2.1, (s.2.2.1, (s.2.2.2.1, (s.2.2.2.2.1, (s.2.2.2.2.2.1, (s.2.2.2.2.2.2.1, (s.2.2.2.2.2.2.2.1, (s.2.2.2.2.2.2.2.2.1, ((s.2.2.2.2.2.2.2.2.2.1.1, (s.2.2.2.2.2.2.2.2.2.1.2.1, (s.2.2.2.2.2.2.2.2.2.1.2.2.1, x2))), (s.2.2.2.2.2.2.2.2.2.2.1, (s.2.2.2.2.2.2.2.2.2.2.2.1, ((wr (s.2.2.2.2.2.2.2.2.2.2.2.2.1 + (1 : Int))), ())))))))))))))))
        (cond (!(decide (x1.2.1 = s.2.1)))
          (cond (!(decide (x1.2.1 = s.2.2.1)))
            (Option.bind (c_spec_l03Put (s.2.2.2.2.2.2.2.2.2.1.2.2.2, (x1.1, (x1.2.1, ((wr ((wr ((wr (x1.2.2 * s.2.2.2.2.2.1)) * s.2.2.2.2.2.2.1)) * s.2.2.2.2.2.2.2.1)), (true, ())))))) fun (x3 : (List (Int × (Int × Int)))) =>
            (kc (s.1, (s.2.1, (s.2.2.1, (s.2.2.2.1, (s.2.2.2.2.1, (s.2.2.2.2.2.1, (s.2.2.2.2.2.2.1, (s.2.2.2.2.2.2.2.1, (s.2.2.2.2.2.2.2.2.1, ((s.2.2.2.2.2.2.2.2.2.1.1, (s.2.2.2.2.2.2.2.2.2.1.2.1, (s.2.2.2.2.2.2.2.2.2.1.2.2.1, x3))), (s.2.2.2.2.2.2.2.2.2.2.1, (s.2.2.2.2.2.2.2.2.2.2.2.1, ((wr (s.2.2.2.2.2.2.2.2.2.2.2.2.1 + (1 : Int))), ())))))))))))))))
            (kc (s.1, (s.2.1, (s.2.2.1, (s.2.2.2.1, (s.2.2.2.2.1, (s.2.2.2.2.2.1, (s.2.2.2.2.2.2.1, (s.2.2.2.2.2.2.2.1, (s.2.2.2.2.2.2.2.2.1, (s.2.2.2.2.2.2.2.2.2.1, (s.2.2.2.2.2.2.2.2.2.2.1, (s.2.2.2.2.2.2.2.2.2.2.2.1, ((wr (s.2.2.2.2.2.2.2.2.2.2.2.2.1 + (1 : Int))), ())))))))))))))))
          (kc (s.1, (s.2.1, (s.2.2.1, (s.2.2.2.1, (s.2.2.2.2.1, (s.2.2.2.2.2.1, (s.2.2.2.2.2.2.1, (s.2.2.2.2.2.2.2.1, (s.2.2.2.2.2.2.2.2.1, (s.2.2.2.2.2.2.2.2.2.1, (s.2.2.2.2.2.2.2.2.2.2.1, (s.2.2.2.2.2.2.2.2.2.2.2.1, ((wr (s.2.2.2.2.2.2.2.2.2.2.2.2.1 + (1 : Int))), ()))))))))))))))))
      (cond (!(decide (x1.2.1 = s.2.1)))
        (cond (!(decide (x1.2.1 = s.2.2.1)))
          (Option.bind (c_spec_l03Put (s.2.2.2.2.2.2.2.2.2.1.2.2.2, (x1.1, (x1.2.1, ((wr ((wr ((wr (x1.2.2 * s.2.2.2.2.2.1)) * s.2.2.2.2.2.2.1)) * s.2.2.2.2.2.2.2.1)), (true, ())))))) fun (x4 : (List (Int × (Int × Int)))) =>
          (kc (s.1, (s.2.1, (s.2.2.1, (s.2.2.2.1, (s.2.2.2.2.1, (s.2.2.2.2.2.1, (s.2.2.2.2.2.2.1, (s.2.2.2.2.2.2.2.1, (s.2.2.2.2.2.2.2.2.1, ((s.2.2.2.2.2.2.2.2.2.1.1, (s.2.2.2.2.2.2.2.2.2.1.2.1, (s.2.2.2.2.2.2.2.2.2.1.2.2.1, x4))), (s.2.2.2.2.2.2.2.2.2.2.1, (s.2.2.2.2.2.2.2.2.2.2.2.1, ((wr (s.2.2.2.2.2.2.2.2.2.2.2.2.1 + (1 : Int))), ())))))))))))))))
          (kc (s.1, (s.2.1, (s.2.2.1, (s.2.2.2.1, (s.2.2.2.2.1, (s.2.2.2.2.2.1, (s.2.2.2.2.2.2.1, (s.2.2.2.2.2.2.2.1, (s.2.2.2.2.2.2.2.2.1, (s.2.2.2.2.2.2.2.2.2.1, (s.2.2.2.2.2.2.2.2.2.2.1, (s.2.2.2.2.2.2.2.2.2.2.2.1, ((wr (s.2.2.2.2.2.2.2.2.2.2.2.2.1 + (1 : Int))), ())))))))))))))))
        (kc (s.1, (s.2.1, (s.2.2.1, (s.2.2.2.1, (s.2.2.2.2.1, (s.2.2.2.2.2.1, (s.2.2.2.2.2.2.1, (s.2.2.2.2.2.2.2.1, (s.2.2.2.2.2.2.2.2.1, (s.2.2.2.2.2.2.2.2.2.1, (s.2.2.2.2.2.2.2.2.2.2.1, (s.2.2.2.2.2.2.2.2.2.2.2.1, ((wr (s.2.2.2.2.2.2.2.2.2.2.2.2.1 + (1 : Int))), ())))))))))))))))))
    (ke (s.1, (s.2.1, (s.2.2.1, (s.2.2.2.1, (s.2.2.2.2.1, (s.2.2.2.2.2.1, (s.2.2.2.2.2.2.1, (s.2.2.2.2.2.2.2.1, (s.2.2.2.2.2.2.2.2.1, (s.2.2.2.2.2.2.2.2.2.1, (s.2.2.2.2.2.2.2.2.2.2.1, (s.2.2.2.2.2.2.2.2.2.2.2.1, (s.2.2.2.2.2.2.2.2.2.2.2.2.1, ())))))))))))))))
def r_spec_TriangleStar (c_spec_NetOk : ((Int × Int × Int × List (Int × Int × Int)) × Unit → Option Bool)) (c_spec_l01In : (Int × Int × Int × Unit → Option Bool)) (c_spec_WeightBetween : ((Int × Int × Int × List (Int × Int × Int)) × Int × Int × Unit → Option Int)) (c_spec_l03Put : ((List (Int × Int × Int)) × Int × Int × Int × Bool × Unit → Option (List (Int × Int × Int)))) (c_spec_l06Reduced : ((Int × Int × Int × List (Int × Int × Int)) × Unit → Option ((Int × Int × Int × List (Int × Int × Int)) × Bool))) (N : Nat) (a0 : (Int × (Int × (Int × (List (Int × (Int × Int))))))) (a1 : Int) (a2 : Int) (a3 : Int) : Option ((Int × (Int × (Int × (List (Int × (Int × Int)))))) × Bool) :=
  (Option.bind (c_spec_NetOk (a0, ())) fun (x1 : Bool) =>
  (cond (!x1)
    (some (((0 : Int), ((0 : Int), ((0 : Int), ([] : List (Int × (Int × Int)))))), false))
    (cond (decide (a0.1 = (5 : Int)))
      (some (((0 : Int), ((0 : Int), ((0 : Int), ([] : List (Int × (Int × Int)))))), false))
      (Option.bind (c_spec_l01In (a1, ((0 : Int), ((wr (a0.1 - (1 : Int))), ())))) fun (x2 : Bool) =>
      (cond (!x2)
        (some (((0 : Int), ((0 : Int), ((0 : Int), ([] : List (Int × (Int × Int)))))), false))
        (Option.bind (c_spec_l01In (a2, ((wr (a1 + (1 : Int))), ((wr (a0.1 - (1 : Int))), ())))) fun (x3 : Bool) =>
        (cond (!x3)
          (some (((0 : Int), ((0 : Int), ((0 : Int), ([] : List (Int × (Int × Int)))))), false))
          (Option.bind (c_spec_l01In (a3, ((wr (a2 + (1 : Int))), ((wr (a0.1 - (1 : Int))), ())))) fun (x4 : Bool) =>
          (cond (!x4)
            (some (((0 : Int), ((0 : Int), ((0 : Int), ([] : List (Int × (Int × Int)))))), false))
            (Option.bind (c_spec_WeightBetween (a0, (a1, (a2, ())))) fun (x5 : Int) =>
            (Option.bind (c_spec_WeightBetween (a0, (a2, (a3, ())))) fun (x6 : Int) =>
            (Option.bind (c_spec_WeightBetween (a0, (a1, (a3, ())))) fun (x7 : Int) =>
            (cond (decide (x5 = (0 : Int)))
              (some (((0 : Int), ((0 : Int), ((0 : Int), ([] : List (Int × (Int × Int)))))), false))
              (cond (decide (x6 = (0 : Int)))
                (some (((0 : Int), ((0 : Int), ((0 : Int), ([] : List (Int × (Int × Int)))))), false))
                (cond (decide (x7 = (0 : Int)))
                  (some (((0 : Int), ((0 : Int), ((0 : Int), ([] : List (Int × (Int × Int)))))), false))
                  (iterK (r_spec_TriangleStar_L0 c_spec_NetOk c_spec_l01In c_spec_WeightBetween c_spec_l03Put c_spec_l06Reduced N) N (a1, (a2, (a3, (a0, (((0 : Int), ((0 : Int), ((0 : Int), ([] : List (Int × (Int × Int)))))), (x5, (x6, (x7, ((wr ((wr ((wr (x5 * x6)) + (wr (x6 * x7)))) + (wr (x7 * x5)))), (((wr (a0.1 + (1 : Int))), (a0.2.1, ((wr ((wr ((wr (a0.2.2.1 * x5)) * x6)) * x7)), ([] : List (Int × (Int × Int)))))), (a0.2.2.2, ((((List.length a0.2.2.2) : Nat) : Int), ((0 : Int), ()))))))))))))) fun (s8 : (Int × (Int × (Int × ((Int × (Int × (Int × (List (Int × (Int × Int)))))) × ((Int × (Int × (Int × (List (Int × (Int × Int)))))) × (Int × (Int × (Int × (Int × ((Int × (Int × (Int × (List (Int × (Int × Int)))))) × ((List (Int × (Int × Int))) × (Int × (Int × Unit)))))))))))))) =>
                  (Option.bind (c_spec_l03Put (s8.2.2.2.2.2.2.2.2.2.1.2.2.2, (s8.1, (s8.2.2.2.1.1, ((wr ((wr (s8.2.2.2.2.2.2.2.2.1 * s8.2.2.2.2.2.1)) * s8.2.2.2.2.2.2.2.1)), (true, ())))))) fun (x9 : (List (Int × (Int × Int)))) =>
                  (Option.bind (c_spec_l03Put (x9, (s8.2.1, (s8.2.2.2.1.1, ((wr ((wr (s8.2.2.2.2.2.2.2.2.1 * s8.2.2.2.2.2.1)) * s8.2.2.2.2.2.2.1)), (true, ())))))) fun (x10 : (List (Int × (Int × Int)))) =>
                  (Option.bind (c_spec_l03Put (x10, (s8.2.2.1, (s8.2.2.2.1.1, ((wr ((wr (s8.2.2.2.2.2.2.2.2.1 * s8.2.2.2.2.2.2.1)) * s8.2.2.2.2.2.2.2.1)), (true, ())))))) fun (x11 : (List (Int × (Int × Int)))) =>
                  (Option.bind (c_spec_l06Reduced ((s8.2.2.2.2.2.2.2.2.2.1.1, (s8.2.2.2.2.2.2.2.2.2.1.2.1, (s8.2.2.2.2.2.2.2.2.2.1.2.2.1, x11))), ())) fun (x12 : ((Int × (Int × (Int × (List (Int × (Int × Int)))))) × Bool)) =>
                  (some (x12.1, x12.2))))))))))))))))))))))

noncomputable def e_spec_TriangleStar (a : (Int × Int × Int × List (Int × Int × Int)) × Int × Int × Int × Unit) : Option ((Int × Int × Int × List (Int × Int × Int)) × Bool) := r_spec_TriangleStar e_spec_NetOk e_spec_l01In e_spec_WeightBetween e_spec_l03Put e_spec_l06Reduced N0 a.1 a.2.1 a.2.2.1 a.2.2.2.1
def r_slices_Index_bool_L0 (_N : Nat) (s : ((List Bool) × (Bool × (Int × (Int × Unit))))) (kc ke : ((List Bool) × (Bool × (Int × (Int × Unit)))) → Option Int) : Option Int :=
  (cond (decide (s.2.2.2.1 < s.2.2.1))
    (Option.bind (getI s.1 s.2.2.2.1) fun (x1 : Bool) =>
    (cond (beqB s.2.1 x1)
      (some s.2.2.2.1)
      (kc (s.1, (s.2.1, (s.2.2.1, ((wr (s.2.2.2.1 + (1 : Int))), ())))))))
    (ke (s.1, (s.2.1, (s.2.2.1, (s.2.2.2.1, ()))))))
def r_slices_Index_bool (N : Nat) (a0 : (List Bool)) (a1 : Bool) : Option Int :=
  (iterK (r_slices_Index_bool_L0 N) N (a0, (a1, ((((List.length a0) : Nat) : Int), ((0 : Int), ())))) fun (_s1 : ((List Bool) × (Bool × (Int × (Int × Unit))))) =>
  (some (-(1 : Int))))

noncomputable def e_slices_Index_bool (a : (List Bool) × Bool × Unit) : Option Int := r_slices_Index_bool N0 a.1 a.2.1
def r_slices_Contains_bool (c_slices_Index_bool : ((List Bool) × Bool × Unit → Option Int)) (_N : Nat) (a0 : (List Bool)) (a1 : Bool) : Option Bool :=
  (Option.bind (c_slices_Index_bool (a0, (a1, ()))) fun (x1 : Int) =>
  (some (decide (x1 ≥ (0 : Int)))))

noncomputable def e_slices_Contains_bool (a : (List Bool) × Bool × Unit) : Option Bool := r_slices_Contains_bool e_slices_Index_bool N0 a.1 a.2.1
def r_cmp_isNaN_int (_N : Nat) (a0 : Int) : Option Bool :=
  (some (!(decide (a0 = a0))))

noncomputable def e_cmp_isNaN_int (a : Int × Unit) : Option Bool := r_cmp_isNaN_int N0 a.1
def r_cmp_Compare_int (c_cmp_isNaN_int : (Int × Unit → Option Bool)) (_N : Nat) (a0 : Int) (a1 : Int) : Option Int :=
  (Option.bind (c_cmp_isNaN_int (a0, ())) fun (x1 : Bool) =>
  (Option.bind (c_cmp_isNaN_int (a1, ())) fun (x2 : Bool) =>
  (cond x1
    (cond x2
      (some (0 : Int))
      (some (-(1 : Int))))
    (cond x2
      (some (1 : Int))
      (cond (decide (a0 < a1))
        (some (-(1 : Int)))
        (cond (decide (a0 > a1))
          (some (1 : Int))
          (some (0 : Int))))))))

noncomputable def e_cmp_Compare_int (a : Int × Int × Unit) : Option Int := r_cmp_Compare_int e_cmp_isNaN_int N0 a.1 a.2.1
def r_cmp_Or_int_L0 (_N : Nat) (s : (Int × ((List Int) × (Int × (Int × Unit))))) (kc ke : (Int × ((List Int) × (Int × (Int × Unit)))) → Option Int) : Option Int :=
  (cond (decide (s.2.2.2.1 < s.2.2.1))
    (Option.bind (getI s.2.1 s.2.2.2.1) fun (x1 : Int) =>
    (cond (!(decide (x1 = s.1)))
      (some x1)
      (kc (s.1, (s.2.1, (s.2.2.1, ((wr (s.2.2.2.1 + (1 : Int))), ())))))))
    (ke (s.1, (s.2.1, (s.2.2.1, (s.2.2.2.1, ()))))))
def r_cmp_Or_int (N : Nat) (a0 : (List Int)) : Option Int :=
  (iterK (r_cmp_Or_int_L0 N) N ((0 : Int), (a0, ((((List.length a0) : Nat) : Int), ((0 : Int), ())))) fun (s1 : (Int × ((List Int) × (Int × (Int × Unit))))) =>
  (some s1.1))

noncomputable def e_cmp_Or_int (a : (List Int) × Unit) : Option Int := r_cmp_Or_int N0 a.1
def r_impl_byEnds (c_cmp_Compare_int : (Int × Int × Unit → Option Int)) (c_cmp_Or_int : ((List Int) × Unit → Option Int)) (_N : Nat) (a0 : (Int × (Int × Int))) (a1 : (Int × (Int × Int))) : Option Int :=
  (Option.bind (c_cmp_Compare_int (a0.1, (a1.1, ()))) fun (x1 : Int) =>
  (Option.bind (c_cmp_Compare_int (a0.2.1, (a1.2.1, ()))) fun (x2 : Int) =>
  (Option.bind (c_cmp_Or_int ((x1 :: (x2 :: ([] : List Int))), ())) fun (x3 : Int) =>
  (some x3))))

noncomputable def e_impl_byEnds (a : (Int × Int × Int) × (Int × Int × Int) × Unit) : Option Int := r_impl_byEnds e_cmp_Compare_int e_cmp_Or_int N0 a.1 a.2.1
def r_impl_NetOk_L4 (_c_slices_Contains_bool : ((List Bool) × Bool × Unit → Option Bool)) (_c_impl_byEnds : ((Int × Int × Int) × (Int × Int × Int) × Unit → Option Int)) (_N : Nat) (s : ((Int × (Int × (Int × (List (Int × (Int × Int)))))) × ((List Bool) × (Int × (Int × ((List (Int × (Int × Int))) × (Int × (Int × Unit)))))))) (kc ke : ((Int × (Int × (Int × (List (Int × (Int × Int)))))) × ((List Bool) × (Int × (Int × ((List (Int × (Int × Int))) × (Int × (Int × Unit))))))) → Option Bool) : Option Bool :=
  (cond (decide (s.2.2.2.2.2.2.1 < s.2.2.2.2.2.1))
    (Option.bind (getI s.2.2.2.2.1 s.2.2.2.2.2.2.1) fun (x1 : (Int × (Int × Int))) =>
    (Option.bind (getI s.2.1 x1.1) fun (x2 : Bool) =>
    (cond x2
      (Option.bind (getI s.2.1 x1.1) fun (_x3 : Bool) =>
      (Option.bind (getI (List.set s.2.1 (Int.toNat x1.1) true) x1.2.1) fun (_x4 : Bool) =>
      (kc (s.1, ((List.set (List.set s.2.1 (Int.toNat x1.1) true) (Int.toNat x1.2.1) true), (s.2.2.1, (s.2.2.2.1, (s.2.2.2.2.1, (s.2.2.2.2.2.1, ((wr (s.2.2.2.2.2.2.1 + (1 : Int))), ()))))))))))
      (Option.bind (getI s.2.1 x1.2.1) fun (x5 : Bool) =>
      (cond x5
        (Option.bind (getI s.2.1 x1.1) fun (_x6 : Bool) =>
        (Option.bind (getI (List.set s.2.1 (Int.toNat x1.1) true) x1.2.1) fun (_x7 : Bool) =>
        (kc (s.1, ((List.set (List.set s.2.1 (Int.toNat x1.1) true) (Int.toNat x1.2.1) true), (s.2.2.1, (s.2.2.2.1, (s.2.2.2.2.1, (s.2.2.2.2.2.1, ((wr (s.2.2.2.2.2.2.1 + (1 : Int))), ()))))))))))
        (kc (s.1, (s.2.1, (s.2.2.1, (s.2.2.2.1, (s.2.2.2.2.1, (s.2.2.2.2.2.1, ((wr (s.2.2.2.2.2.2.1 + (1 : Int))), ())))))))))))))
    (ke (s.1, (s.2.1, (s.2.2.1, (s.2.2.2.1, (s.2.2.2.2.1, (s.2.2.2.2.2.1, (s.2.2.2.2.2.2.1, ())))))))))
def r_impl_NetOk_L2 (c_slices_Contains_bool : ((List Bool) × Bool × Unit → Option Bool)) (c_impl_byEnds : ((Int × Int × Int) × (Int × Int × Int) × Unit → Option Int)) (N : Nat) (s : ((Int × (Int × (Int × (List (Int × (Int × Int)))))) × ((List Bool) × (Int × (Int × Unit))))) (kc ke : ((Int × (Int × (Int × (List (Int × (Int × Int)))))) × ((List Bool) × (Int × (Int × Unit)))) → Option Bool) : Option Bool :=
  (cond (decide (s.2.2.2.1 < s.2.2.1))
    (iterK (r_impl_NetOk_L4 c_slices_Contains_bool c_impl_byEnds N) N (s.1, (s.2.1, (s.2.2.1, (s.2.2.2.1, (s.1.2.2.2, ((((List.length s.1.2.2.2) : Nat) : Int), ((0 : Int), ()))))))) fun (s1 : ((Int × (Int × (Int × (List (Int × (Int × Int)))))) × ((List Bool) × (Int × (Int × ((List (Int × (Int × Int))) × (Int × (Int × Unit)))))))) =>
    (kc (s1.1, (s1.2.1, (s1.2.2.1, ((wr (s1.2.2.2.1 + (1 : Int))), ()))))))
    (ke (s.1, (s.2.1, (s.2.2.1, (s.2.2.2.1, ()))))))
def r_impl_NetOk_L0 (_c_slices_Contains_bool : ((List Bool) × Bool × Unit → Option Bool)) (c_impl_byEnds : ((Int × Int × Int) × (Int × Int × Int) × Unit → Option Int)) (_N : Nat) (s : ((Int × (Int × (Int × (List (Int × (Int × Int)))))) × ((List (Int × (Int × Int))) × (Int × (Int × Unit))))) (kc ke : ((Int × (Int × (Int × (List (Int × (Int × Int)))))) × ((List (Int × (Int × Int))) × (Int × (Int × Unit)))) → Option Bool) : Option Bool :=
  (cond (decide (s.2.2.2.1 < s.2.2.1))
    (Option.bind (getI s.2.1 s.2.2.2.1) fun (x1 : (Int × (Int × Int))) =>
    (cond (decide (x1.1 < (0 : Int)))
      (some false)
      (cond (decide (x1.1 ≥ x1.2.1))
        (some false)
        (cond (decide (x1.2.1 ≥ s.1.1))
          (some false)
          (cond (decide (x1.2.2 < (1 : Int)))
            (some false)
            (cond (decide (x1.2.2 > (200 : Int)))
              (some false)
              (cond (decide (s.2.2.2.1 > (0 : Int)))
                (Option.bind (getI s.1.2.2.2 (wr (s.2.2.2.1 - (1 : Int)))) fun (x2 : (Int × (Int × Int))) =>
                (Option.bind (c_impl_byEnds (x2, (x1, ()))) fun (x3 : Int) =>
                (cond (decide (x3 ≥ (0 : Int)))
                  (some false)
                  (kc (s.1, (s.2.1, (s.2.2.1, ((wr (s.2.2.2.1 + (1 : Int))), ()))))))))
                (kc (s.1, (s.2.1, (s.2.2.1, ((wr (s.2.2.2.1 + (1 : Int))), ()))))))))))))
    (ke (s.1, (s.2.1, (s.2.2.1, (s.2.2.2.1, ()))))))
def r_impl_NetOk (c_slices_Contains_bool : ((List Bool) × Bool × Unit → Option Bool)) (c_impl_byEnds : ((Int × Int × Int) × (Int × Int × Int) × Unit → Option Int)) (N : Nat) (a0 : (Int × (Int × (Int × (List (Int × (Int × Int))))))) : Option Bool :=
  (cond (decide (a0.1 < (1 : Int)))
    (some false)
    (cond (decide (a0.1 > (5 : Int)))
      (some false)
      (cond (decide (a0.2.1 < (1 : Int)))
        (some false)
        (cond (decide (a0.2.1 > a0.1))
          (some false)
          (cond (decide (a0.2.2.1 < (1 : Int)))
            (some false)
            (cond (decide (a0.2.2.1 > (1000 : Int)))
              (some false)
              (iterK (r_impl_NetOk_L0 c_slices_Contains_bool c_impl_byEnds N) N (a0, (a0.2.2.2, ((((List.length a0.2.2.2) : Nat) : Int), ((0 : Int), ())))) fun (s1 : ((Int × (Int × (Int × (List (Int × (Int × Int)))))) × ((List (Int × (Int × Int))) × (Int × (Int × Unit))))) =>
              (cond (decide ((0 : Int) ≤ s1.1.1))
                (cond (Nat.ble (Int.toNat s1.1.1) 17179869184)
                  (Option.bind (getI (List.replicate (Int.toNat s1.1.1) false) (0 : Int)) fun (_x2 : Bool) =>
                  (iterK (r_impl_NetOk_L2 c_slices_Contains_bool c_impl_byEnds N) N (s1.1, ((List.set (List.replicate (Int.toNat s1.1.1) false) (Int.toNat (0 : Int)) true), (s1.1.1, ((0 : Int), ())))) fun (s3 : ((Int × (Int × (Int × (List (Int × (Int × Int)))))) × ((List Bool) × (Int × (Int × Unit))))) =>
                  (Option.bind (c_slices_Contains_bool (s3.2.1, (false, ()))) fun (x4 : Bool) =>
                  (some (!x4)))))
                  none)
                none))))))))

noncomputable def e_impl_NetOk (a : (Int × Int × Int × List (Int × Int × Int)) × Unit) : Option Bool := r_impl_NetOk e_slices_Contains_bool e_impl_byEnds N0 a.1
def r_impl_WeightBetween_L0 (_N : Nat) (s : (Int × (Int × ((List (Int × (Int × Int))) × (Int × (Int × Unit)))))) (kc ke : (Int × (Int × ((List (Int × (Int × Int))) × (Int × (Int × Unit))))) → Option Int) : Option Int :=
  (cond (decide (s.2.2.2.2.1 < s.2.2.2.1))
    (Option.bind (getI s.2.2.1 s.2.2.2.2.1) fun (x1 : (Int × (Int × Int))) =>
    (cond (!(decide (s.1 = s.2.1)))
      (cond (decide (x1.1 = s.1))
        (cond (decide (x1.2.1 = s.2.1))
          (some x1.2.2)
          (cond (decide (x1.1 = s.2.1))
            (cond (decide (x1.2.1 = s.1))
              (some x1.2.2)
              (kc (s.1, (s.2.1, (s.2.2.1, (s.2.2.2.1, ((wr (s.2.2.2.2.1 + (1 : Int))), ())))))))
            (kc (s.1, (s.2.1, (s.2.2.1, (s.2.2.2.1, ((wr (s.2.2.2.2.1 + (1 : Int))), ()))))))))
        (cond (decide (x1.1 = s.2.1))
          (cond (decide (x1.2.1 = s.1))
            (some x1.2.2)
            (kc (s.1, (s.2.1, (s.2.2.1, (s.2.2.2.1, ((wr (s.2.2.2.2.1 + (1 : Int))), ())))))))
          (kc (s.1, (s.2.1, (s.2.2.1, (s.2.2.2.1, ((wr (s.2.2.2.2.1 + (1 : Int))), ()))))))))
      (kc (s.1, (s.2.1, (s.2.2.1, (s.2.2.2.1, ((wr (s.2.2.2.2.1 + (1 : Int))), ()))))))))
    (ke (s.1, (s.2.1, (s.2.2.1, (s.2.2.2.1, (s.2.2.2.2.1, ())))))))
def r_impl_WeightBetween (N : Nat) (a0 : (Int × (Int × (Int × (List (Int × (Int × Int))))))) (a1 : Int) (a2 : Int) : Option Int :=
  (iterK (r_impl_WeightBetween_L0 N) N (a1, (a2, (a0.2.2.2, ((((List.length a0.2.2.2) : Nat) : Int), ((0 : Int), ()))))) fun (_s1 : (Int × (Int × ((List (Int × (Int × Int))) × (Int × (Int × Unit)))))) =>
  (some (0 : Int)))

noncomputable def e_impl_WeightBetween (a : (Int × Int × Int × List (Int × Int × Int)) × Int × Int × Unit) : Option Int := r_impl_WeightBetween N0 a.1 a.2.1 a.2.2.1
def r_impl_table_L2 (c_impl_WeightBetween : ((Int × Int × Int × List (Int × Int × Int)) × Int × Int × Unit → Option Int)) (_N : Nat) (s : ((Int × (Int × (Int × (List (Int × (Int × Int)))))) × ((List (List Int)) × (Int × (Int × (Int × (Int × (Int × Unit)))))))) (kc ke : ((Int × (Int × (Int × (List (Int × (Int × Int)))))) × ((List (List Int)) × (Int × (Int × (Int × (Int × (Int × Unit))))))) → Option (List (List Int))) : Option (List (List Int)) :=
  (cond (decide (s.2.2.2.2.2.2.1 < s.2.2.2.2.2.1))
    (Option.bind (getI s.2.1 s.2.2.1) fun (x1 : (List Int)) =>
    (Option.bind (c_impl_WeightBetween (s.1, (s.2.2.1, (s.2.2.2.2.2.2.1, ())))) fun (x2 : Int) =>
    (Option.bind (getI x1 s.2.2.2.2.2.2.1) fun (_x3 : Int) =>
    (kc (s.1, ((List.set s.2.1 (Int.toNat s.2.2.1) (List.set x1 (Int.toNat s.2.2.2.2.2.2.1) x2)), (s.2.2.1, (s.2.2.2.1, (s.2.2.2.2.1, (s.2.2.2.2.2.1, ((wr (s.2.2.2.2.2.2.1 + (1 : Int))), ())))))))))))
    (ke (s.1, (s.2.1, (s.2.2.1, (s.2.2.2.1, (s.2.2.2.2.1, (s.2.2.2.2.2.1, (s.2.2.2.2.2.2.1, ())))))))))
def r_impl_table_L0 (c_impl_WeightBetween : ((Int × Int × Int × List (Int × Int × Int)) × Int × Int × Unit → Option Int)) (N : Nat) (s : ((Int × (Int × (Int × (List (Int × (Int × Int)))))) × ((List (List Int)) × (Int × (Int × Unit))))) (kc ke : ((Int × (Int × (Int × (List (Int × (Int × Int)))))) × ((List (List Int)) × (Int × (Int × Unit)))) → Option (List (List Int))) : Option (List (List Int)) :=
  (cond (decide (s.2.2.2.1 < s.2.2.1))
    (cond (decide ((0 : Int) ≤ s.1.1))
      (cond (Nat.ble (Int.toNat s.1.1) 17179869184)
        (Option.bind (getI s.2.1 s.2.2.2.1) fun (_x1 : (List Int)) =>
        (Option.bind (getI (List.set s.2.1 (Int.toNat s.2.2.2.1) (List.replicate (Int.toNat s.1.1) (0 : Int))) s.2.2.2.1) fun (x2 : (List Int)) =>
        (iterK (r_impl_table_L2 c_impl_WeightBetween N) N (s.1, ((List.set s.2.1 (Int.toNat s.2.2.2.1) (List.replicate (Int.toNat s.1.1) (0 : Int))), (s.2.2.2.1, (s.2.2.1, (s.2.2.2.1, ((((List.length x2) : Nat) : Int), ((0 : Int), ()))))))) fun (s3 : ((Int × (Int × (Int × (List (Int × (Int × Int)))))) × ((List (List Int)) × (Int × (Int × (Int × (Int × (Int × Unit)))))))) =>
        (kc (s3.1, (s3.2.1, (s3.2.2.2.1, ((wr (s3.2.2.2.2.1 + (1 : Int))), ()))))))))
        none)
      none)
    (ke (s.1, (s.2.1, (s.2.2.1, (s.2.2.2.1, ()))))))
def r_impl_table (c_impl_WeightBetween : ((Int × Int × Int × List (Int × Int × Int)) × Int × Int × Unit → Option Int)) (N : Nat) (a0 : (Int × (Int × (Int × (List (Int × (Int × Int))))))) : Option (List (List Int)) :=
  (cond (decide ((0 : Int) ≤ a0.1))
    (cond (Nat.ble (Int.toNat a0.1) 17179869184)
      (iterK (r_impl_table_L0 c_impl_WeightBetween N) N (a0, ((List.replicate (Int.toNat a0.1) ([] : List Int)), ((((List.length (List.replicate (Int.toNat a0.1) ([] : List Int))) : Nat) : Int), ((0 : Int), ())))) fun (s1 : ((Int × (Int × (Int × (List (Int × (Int × Int)))))) × ((List (List Int)) × (Int × (Int × Unit))))) =>
      (some s1.2.1))
      none)
    none)

noncomputable def e_impl_table (a : (Int × Int × Int × List (Int × Int × Int)) × Unit) : Option (List (List Int)) := r_impl_table e_impl_WeightBetween N0 a.1
def r_impl_size (_N : Nat) (a0 : Int) : Option Int :=
  (cond (decide (a0 < (0 : Int)))
    (some (Go.IntKind.wrap @Go.IntKind.u64 ((0 : Int) - (Go.IntKind.wrap @Go.IntKind.u64 a0))))
    (some (Go.IntKind.wrap @Go.IntKind.u64 a0)))

noncomputable def e_impl_size (a : Int × Unit) : Option Int := r_impl_size N0 a.1
def r_impl_common_L0 (_N : Nat) (s : (Int × (Int × Unit))) (kc ke : (Int × (Int × Unit)) → Option Int) : Option Int :=
  (cond (!(decide (s.2.1 = (0 : Int))))
    (cond (decide (s.2.1 = (0 : Int)))
      none
      (kc (s.2.1, ((Int.tmod s.1 s.2.1), ()))))
    (ke (s.1, (s.2.1, ()))))
def r_impl_common (N : Nat) (a0 : Int) (a1 : Int) : Option Int :=
  (iterK (r_impl_common_L0 N) N (a0, (a1, ())) fun (s1 : (Int × (Int × Unit))) =>
  (some s1.1))

noncomputable def e_impl_common (a : Int × Int × Unit) : Option Int := r_impl_common N0 a.1 a.2.1
def r_impl_GcdOf (c_impl_size : (Int × Unit → Option Int)) (c_impl_common : (Int × Int × Unit → Option Int)) (_N : Nat) (a0 : Int) (a1 : Int) : Option Int :=
  (cond (decide (a0 = (-(9223372036854775808 : Int))))
    (some (0 : Int))
    (cond (decide (a1 = (-(9223372036854775808 : Int))))
      (some (0 : Int))
      (Option.bind (c_impl_size (a0, ())) fun (x1 : Int) =>
      (Option.bind (c_impl_size (a1, ())) fun (x2 : Int) =>
      (Option.bind (c_impl_common (x1, (x2, ()))) fun (x3 : Int) =>
      (some (wr x3)))))))

noncomputable def e_impl_GcdOf (a : Int × Int × Unit) : Option Int := r_impl_GcdOf e_impl_size e_impl_common N0 a.1 a.2.1
def r_impl_netOf_L2 (_c_impl_NetOk : ((Int × Int × Int × List (Int × Int × Int)) × Unit → Option Bool)) (c_impl_GcdOf : (Int × Int × Unit → Option Int)) (_N : Nat) (s : ((List (List Int)) × (Bool × ((Int × (Int × (Int × (List (Int × (Int × Int)))))) × ((Int × (Int × (Int × (List (Int × (Int × Int)))))) × (Int × (Int × (Int × (Int × (Int × Unit)))))))))) (kc ke : ((List (List Int)) × (Bool × ((Int × (Int × (Int × (List (Int × (Int × Int)))))) × ((Int × (Int × (Int × (List (Int × (Int × Int)))))) × (Int × (Int × (Int × (Int × (Int × Unit))))))))) → Option ((Int × (Int × (Int × (List (Int × (Int × Int)))))) × Bool)) : Option ((Int × (Int × (Int × (List (Int × (Int × Int)))))) × Bool) :=
  (cond (decide (s.2.2.2.2.2.2.1 < (((List.length s.1) : Nat) : Int)))
    (Option.bind (getI s.1 s.2.2.2.2.2.1) fun (x1 : (List Int)) =>
    (Option.bind (getI x1 s.2.2.2.2.2.2.1) fun (x2 : Int) =>
    (cond (!(decide (x2 = (0 : Int))))
      (cond (Nat.ble ((List.length s.2.2.2.1.2.2.2) + (List.length ((s.2.2.2.2.2.1, (s.2.2.2.2.2.2.1, x2)) :: ([] : List (Int × (Int × Int)))))) 17179869184)
        (Option.bind (c_impl_GcdOf (s.2.2.2.2.1, (x2, ()))) fun (x3 : Int) =>
        (kc (s.1, (s.2.1, (s.2.2.1, ((s.2.2.2.1.1, (s.2.2.2.1.2.1, (s.2.2.2.1.2.2.1, (s.2.2.2.1.2.2.2 ++ ((s.2.2.2.2.2.1, (s.2.2.2.2.2.2.1, x2)) :: ([] : List (Int × (Int × Int)))))))), (x3, (s.2.2.2.2.2.1, ((wr (s.2.2.2.2.2.2.1 + (1 : Int))), (s.2.2.2.2.2.2.2.1, (s.2.2.2.2.2.2.2.2.1, ())))))))))))
        none)
      (kc (s.1, (s.2.1, (s.2.2.1, (s.2.2.2.1, (s.2.2.2.2.1, (s.2.2.2.2.2.1, ((wr (s.2.2.2.2.2.2.1 + (1 : Int))), (s.2.2.2.2.2.2.2.1, (s.2.2.2.2.2.2.2.2.1, ())))))))))))))
    (ke (s.1, (s.2.1, (s.2.2.1, (s.2.2.2.1, (s.2.2.2.2.1, (s.2.2.2.2.2.1, (s.2.2.2.2.2.2.1, (s.2.2.2.2.2.2.2.1, (s.2.2.2.2.2.2.2.2.1, ())))))))))))
def r_impl_netOf_L4 (_c_impl_NetOk : ((Int × Int × Int × List (Int × Int × Int)) × Unit → Option Bool)) (_c_impl_GcdOf : (Int × Int × Unit → Option Int)) (_N : Nat) (s : ((Int × (Int × (Int × (List (Int × (Int × Int)))))) × ((Int × (Int × (Int × (List (Int × (Int × Int)))))) × (Int × (Int × (Int × Unit)))))) (kc ke : ((Int × (Int × (Int × (List (Int × (Int × Int)))))) × ((Int × (Int × (Int × (List (Int × (Int × Int)))))) × (Int × (Int × (Int × Unit))))) → Option ((Int × (Int × (Int × (List (Int × (Int × Int)))))) × Bool)) : Option ((Int × (Int × (Int × (List (Int × (Int × Int)))))) × Bool) :=
  (cond (decide (s.2.2.2.2.1 < s.2.2.2.1))
    (Option.bind (getI s.2.1.2.2.2 s.2.2.2.2.1) fun (x1 : (Int × (Int × Int))) =>
    (cond (decide (s.2.2.1 = (0 : Int)))
      none
      (Option.bind (getI s.2.1.2.2.2 s.2.2.2.2.1) fun (x2 : (Int × (Int × Int))) =>
      (kc (s.1, ((s.2.1.1, (s.2.1.2.1, (s.2.1.2.2.1, (List.set s.2.1.2.2.2 (Int.toNat s.2.2.2.2.1) (x2.1, (x2.2.1, (wr (Int.tdiv x1.2.2 s.2.2.1)))))))), (s.2.2.1, (s.2.2.2.1, ((wr (s.2.2.2.2.1 + (1 : Int))), ())))))))))
    (ke (s.1, (s.2.1, (s.2.2.1, (s.2.2.2.1, (s.2.2.2.2.1, ())))))))
def r_impl_netOf_L0 (c_impl_NetOk : ((Int × Int × Int × List (Int × Int × Int)) × Unit → Option Bool)) (c_impl_GcdOf : (Int × Int × Unit → Option Int)) (N : Nat) (s : ((List (List Int)) × (Bool × ((Int × (Int × (Int × (List (Int × (Int × Int)))))) × ((Int × (Int × (Int × (List (Int × (Int × Int)))))) × (Int × (Int × (Int × Unit)))))))) (kc ke : ((List (List Int)) × (Bool × ((Int × (Int × (Int × (List (Int × (Int × Int)))))) × ((Int × (Int × (Int × (List (Int × (Int × Int)))))) × (Int × (Int × (Int × Unit))))))) → Option ((Int × (Int × (Int × (List (Int × (Int × Int)))))) × Bool)) : Option ((Int × (Int × (Int × (List (Int × (Int × Int)))))) × Bool) :=
  (cond (decide (s.2.2.2.2.2.2.1 < s.2.2.2.2.2.1))
    (iterK (r_impl_netOf_L2 c_impl_NetOk c_impl_GcdOf N) N (s.1, (s.2.1, (s.2.2.1, (s.2.2.2.1, (s.2.2.2.2.1, (s.2.2.2.2.2.2.1, ((wr (s.2.2.2.2.2.2.1 + (1 : Int))), (s.2.2.2.2.2.1, (s.2.2.2.2.2.2.1, ()))))))))) fun (s1 : ((List (List Int)) × (Bool × ((Int × (Int × (Int × (List (Int × (Int × Int)))))) × ((Int × (Int × (Int × (List (Int × (Int × Int)))))) × (Int × (Int × (Int × (Int × (Int × Unit)))))))))) =>
    (kc (s1.1, (s1.2.1, (s1.2.2.1, (s1.2.2.2.1, (s1.2.2.2.2.1, (s1.2.2.2.2.2.2.2.1, ((wr (s1.2.2.2.2.2.2.2.2.1 + (1 : Int))), ())))))))))
    (ke (s.1, (s.2.1, (s.2.2.1, (s.2.2.2.1, (s.2.2.2.2.1, (s.2.2.2.2.2.1, (s.2.2.2.2.2.2.1, ())))))))))
def r_impl_netOf (c_impl_NetOk : ((Int × Int × Int × List (Int × Int × Int)) × Unit → Option Bool)) (c_impl_GcdOf : (Int × Int × Unit → Option Int)) (N : Nat) (a0 : Int) (a1 : Int) (a2 : (List (List Int))) (a3 : Bool) : Option ((Int × (Int × (Int × (List (Int × (Int × Int)))))) × Bool) :=
  (iterK (r_impl_netOf_L0 c_impl_NetOk c_impl_GcdOf N) N (a2, (a3, (((0 : Int), ((0 : Int), ((0 : Int), ([] : List (Int × (Int × Int)))))), (((((List.length a2) : Nat) : Int), (a0, (a1, ([] : List (Int × (Int × Int)))))), (a1, ((((List.length a2) : Nat) : Int), ((0 : Int), ()))))))) fun (s1 : ((List (List Int)) × (Bool × ((Int × (Int × (Int × (List (Int × (Int × Int)))))) × ((Int × (Int × (Int × (List (Int × (Int × Int)))))) × (Int × (Int × (Int × Unit)))))))) =>
  (cond s1.2.1
    (cond (decide (s1.2.2.2.2.1 = (0 : Int)))
      none
      (iterK (r_impl_netOf_L4 c_impl_NetOk c_impl_GcdOf N) N (s1.2.2.1, ((s1.2.2.2.1.1, (s1.2.2.2.1.2.1, ((wr (Int.tdiv s1.2.2.2.1.2.2.1 s1.2.2.2.2.1)), s1.2.2.2.1.2.2.2))), (s1.2.2.2.2.1, ((((List.length s1.2.2.2.1.2.2.2) : Nat) : Int), ((0 : Int), ()))))) fun (s2 : ((Int × (Int × (Int × (List (Int × (Int × Int)))))) × ((Int × (Int × (Int × (List (Int × (Int × Int)))))) × (Int × (Int × (Int × Unit)))))) =>
      (Option.bind (c_impl_NetOk (s2.2.1, ())) fun (x3 : Bool) =>
      (cond (!x3)
        (some (((0 : Int), ((0 : Int), ((0 : Int), ([] : List (Int × (Int × Int)))))), false))
        (some (s2.2.1, true))))))
    (Option.bind (c_impl_NetOk (s1.2.2.2.1, ())) fun (x4 : Bool) =>
    (cond (!x4)
      (some (((0 : Int), ((0 : Int), ((0 : Int), ([] : List (Int × (Int × Int)))))), false))
      (some (s1.2.2.2.1, true))))))

noncomputable def e_impl_netOf (a : Int × Int × (List (List Int)) × Bool × Unit) : Option ((Int × Int × Int × List (Int × Int × Int)) × Bool) := r_impl_netOf e_impl_NetOk e_impl_GcdOf N0 a.1 a.2.1 a.2.2.1 a.2.2.2.1
def r_impl_TriangleStar_L2 (_c_impl_NetOk : ((Int × Int × Int × List (Int × Int × Int)) × Unit → Option Bool)) (_c_impl_WeightBetween : ((Int × Int × Int × List (Int × Int × Int)) × Int × Int × Unit → Option Int)) (_c_impl_table : ((Int × Int × Int × List (Int × Int × Int)) × Unit → Option (List (List Int)))) (_c_impl_netOf : (Int × Int × (List (List Int)) × Bool × Unit → Option ((Int × Int × Int × List (Int × Int × Int)) × Bool))) (_N : Nat) (s : (Int × (Int × (Int × ((Int × (Int × (Int × (List (Int × (Int × Int)))))) × ((Int × (Int × (Int × (List (Int × (Int × Int)))))) × (Int × (Int × (Int × ((List (List Int)) × (Int × (Int × (Int × (Int × (Int × Unit))))))))))))))) (kc ke : (Int × (Int × (Int × ((Int × (Int × (Int × (List (Int × (Int × Int)))))) × ((Int × (Int × (Int × (List (Int × (Int × Int)))))) × (Int × (Int × (Int × ((List (List Int)) × (Int × (Int × (Int × (Int × (Int × Unit)))))))))))))) → Option ((Int × (Int × (Int × (List (Int × (Int × Int)))))) × Bool)) : Option ((Int × (Int × (Int × (List (Int × (Int × Int)))))) × Bool) :=
  (cond (decide (s.2.2.2.2.2.2.2.2.2.2.2.2.2.1 < s.2.2.2.2.2.2.2.2.2.2.2.2.1))
    (Option.bind (getI s.2.2.2.2.2.2.2.2.1 s.2.2.2.2.2.2.2.2.2.1) fun (x1 : (List Int)) =>
    (Option.bind (getI x1 s.2.2.2.2.2.2.2.2.2.2.2.2.2.1) fun (x2 : Int) =>
    (Option.bind (getI x1 s.2.2.2.2.2.2.2.2.2.2.2.2.2.1) fun (_x3 : Int) =>
    (kc (s.1, (s.2.1, (s.2.2.1, (s.2.2.2.1, (s.2.2.2.2.1, (s.2.2.2.2.2.1, (s.2.2.2.2.2.2.1, (s.2.2.2.2.2.2.2.1, ((List.set s.2.2.2.2.2.2.2.2.1 (Int.toNat s.2.2.2.2.2.2.2.2.2.1) (List.set x1 (Int.toNat s.2.2.2.2.2.2.2.2.2.2.2.2.2.1) (wr (x2 * (wr ((wr (s.2.2.2.2.2.1 * s.2.2.2.2.2.2.1)) * s.2.2.2.2.2.2.2.1)))))), (s.2.2.2.2.2.2.2.2.2.1, (s.2.2.2.2.2.2.2.2.2.2.1, (s.2.2.2.2.2.2.2.2.2.2.2.1, (s.2.2.2.2.2.2.2.2.2.2.2.2.1, ((wr (s.2.2.2.2.2.2.2.2.2.2.2.2.2.1 + (1 : Int))), ()))))))))))))))))))
    (ke (s.1, (s.2.1, (s.2.2.1, (s.2.2.2.1, (s.2.2.2.2.1, (s.2.2.2.2.2.1, (s.2.2.2.2.2.2.1, (s.2.2.2.2.2.2.2.1, (s.2.2.2.2.2.2.2.2.1, (s.2.2.2.2.2.2.2.2.2.1, (s.2.2.2.2.2.2.2.2.2.2.1, (s.2.2.2.2.2.2.2.2.2.2.2.1, (s.2.2.2.2.2.2.2.2.2.2.2.2.1, (s.2.2.2.2.2.2.2.2.2.2.2.2.2.1, ()))))))))))))))))
def r_impl_TriangleStar_L4 (_c_impl_NetOk : ((Int × Int × Int × List (Int × Int × Int)) × Unit → Option Bool)) (_c_impl_WeightBetween : ((Int × Int × Int × List (Int × Int × Int)) × Int × Int × Unit → Option Int)) (_c_impl_table : ((Int × Int × Int × List (Int × Int × Int)) × Unit → Option (List (List Int)))) (_c_impl_netOf : (Int × Int × (List (List Int)) × Bool × Unit → Option ((Int × Int × Int × List (Int × Int × Int)) × Bool))) (_N : Nat) (s : (Int × (Int × (Int × ((Int × (Int × (Int × (List (Int × (Int × Int)))))) × ((Int × (Int × (Int × (List (Int × (Int × Int)))))) × (Int × (Int × (Int × ((List (List Int)) × ((List (Int × Int)) × (Int × (Int × Unit))))))))))))) (kc ke : (Int × (Int × (Int × ((Int × (Int × (Int × (List (Int × (Int × Int)))))) × ((Int × (Int × (Int × (List (Int × (Int × Int)))))) × (Int × (Int × (Int × ((List (List Int)) × ((List (Int × Int)) × (Int × (Int × Unit)))))))))))) → Option ((Int × (Int × (Int × (List (Int × (Int × Int)))))) × Bool)) : Option ((Int × (Int × (Int × (List (Int × (Int × Int)))))) × Bool) :=
  (cond (decide (s.2.2.2.2.2.2.2.2.2.2.2.1 < s.2.2.2.2.2.2.2.2.2.2.1))
    (Option.bind (getI s.2.2.2.2.2.2.2.2.2.1 s.2.2.2.2.2.2.2.2.2.2.2.1) fun (x1 : (Int × Int)) =>
    (Option.bind (getI s.2.2.2.2.2.2.2.2.1 x1.1) fun (x2 : (List Int)) =>
    (Option.bind (getI x2 x1.2) fun (_x3 : Int) =>
    (Option.bind (getI (List.set s.2.2.2.2.2.2.2.2.1 (Int.toNat x1.1) (List.set x2 (Int.toNat x1.2) (0 : Int))) x1.2) fun (x4 : (List Int)) =>
    (Option.bind (getI x4 x1.1) fun (_x5 : Int) =>
    (kc (s.1, (s.2.1, (s.2.2.1, (s.2.2.2.1, (s.2.2.2.2.1, (s.2.2.2.2.2.1, (s.2.2.2.2.2.2.1, (s.2.2.2.2.2.2.2.1, ((List.set (List.set s.2.2.2.2.2.2.2.2.1 (Int.toNat x1.1) (List.set x2 (Int.toNat x1.2) (0 : Int))) (Int.toNat x1.2) (List.set x4 (Int.toNat x1.1) (0 : Int))), (s.2.2.2.2.2.2.2.2.2.1, (s.2.2.2.2.2.2.2.2.2.2.1, ((wr (s.2.2.2.2.2.2.2.2.2.2.2.1 + (1 : Int))), ()))))))))))))))))))
    (ke (s.1, (s.2.1, (s.2.2.1, (s.2.2.2.1, (s.2.2.2.2.1, (s.2.2.2.2.2.1, (s.2.2.2.2.2.2.1, (s.2.2.2.2.2.2.2.1, (s.2.2.2.2.2.2.2.2.1, (s.2.2.2.2.2.2.2.2.2.1, (s.2.2.2.2.2.2.2.2.2.2.1, (s.2.2.2.2.2.2.2.2.2.2.2.1, ()))))))))))))))
def r_impl_TriangleStar_L0 (c_impl_NetOk : ((Int × Int × Int × List (Int × Int × Int)) × Unit → Option Bool)) (c_impl_WeightBetween : ((Int × Int × Int × List (Int × Int × Int)) × Int × Int × Unit → Option Int)) (c_impl_table : ((Int × Int × Int × List (Int × Int × Int)) × Unit → Option (List (List Int)))) (c_impl_netOf : (Int × Int × (List (List Int)) × Bool × Unit → Option ((Int × Int × Int × List (Int × Int × Int)) × Bool))) (N : Nat) (s : (Int × (Int × (Int × ((Int × (Int × (Int × (List (Int × (Int × Int)))))) × ((Int × (Int × (Int × (List (Int × (Int × Int)))))) × (Int × (Int × (Int × ((List (List Int)) × (Int × (Int × Unit)))))))))))) (kc ke : (Int × (Int × (Int × ((Int × (Int × (Int × (List (Int × (Int × Int)))))) × ((Int × (Int × (Int × (List (Int × (Int × Int)))))) × (Int × (Int × (Int × ((List (List Int)) × (Int × (Int × Unit))))))))))) → Option ((Int × (Int × (Int × (List (Int × (Int × Int)))))) × Bool)) : Option ((Int × (Int × (Int × (List (Int × (Int × Int)))))) × Bool) :=
  (cond (decide (s.2.2.2.2.2.2.2.2.2.2.1 < s.2.2.2.2.2.2.2.2.2.1))
    (iterK (r_impl_TriangleStar_L2 c_impl_NetOk c_impl_WeightBetween c_impl_table c_impl_netOf N) N (s.1, (s.2.1, (s.2.2.1, (s.2.2.2.1, (s.2.2.2.2.1, (s.2.2.2.2.2.1, (s.2.2.2.2.2.2.1, (s.2.2.2.2.2.2.2.1, (s.2.2.2.2.2.2.2.2.1, (s.2.2.2.2.2.2.2.2.2.2.1, (s.2.2.2.2.2.2.2.2.2.1, (s.2.2.2.2.2.2.2.2.2.2.1, ((((List.length s.2.2.2.2.2.2.2.2.1) : Nat) : Int), ((0 : Int), ())))))))))))))) fun (s1 : (Int × (Int × (Int × ((Int × (Int × (Int × (List (Int × (Int × Int)))))) × ((Int × (Int × (Int × (List (Int × (Int × Int)))))) × (Int × (Int × (Int × ((List (List Int)) × (Int × (Int × (Int × (Int × (Int × Unit))))))))))))))) =>
    (Option.bind (getI s1.2.2.2.2.2.2.2.2.1 s1.2.2.2.2.2.2.2.2.2.1) fun (x2 : (List Int)) =>
    (cond (Nat.ble ((List.length x2) + (List.length ((0 : Int) :: ([] : List Int)))) 17179869184)
      (Option.bind (getI s1.2.2.2.2.2.2.2.2.1 s1.2.2.2.2.2.2.2.2.2.1) fun (_x3 : (List Int)) =>
      (cond (@Go.Sx.samePath (([] : List PS) ++ ((@Go.Sx.PS.idx (Int.toNat s1.2.2.2.2.2.2.2.2.2.1)) :: ([] : List PS))) (([] : List PS) ++ ((@Go.Sx.PS.idx (Int.toNat s1.2.2.2.2.2.2.2.2.2.1)) :: ([] : List PS))))
        (kc (s1.1, (s1.2.1, (s1.2.2.1, (s1.2.2.2.1, (s1.2.2.2.2.1, (s1.2.2.2.2.2.1, (s1.2.2.2.2.2.2.1, (s1.2.2.2.2.2.2.2.1, ((List.set s1.2.2.2.2.2.2.2.2.1 (Int.toNat s1.2.2.2.2.2.2.2.2.2.1) (x2 ++ ((0 : Int) :: ([] : List Int)))), (s1.2.2.2.2.2.2.2.2.2.2.1, ((wr (s1.2.2.2.2.2.2.2.2.2.2.2.1 + (1 : Int))), ()))))))))))))
        none))
      none)))
    (ke (s.1, (s.2.1, (s.2.2.1, (s.2.2.2.1, (s.2.2.2.2.1, (s.2.2.2.2.2.1, (s.2.2.2.2.2.2.1, (s.2.2.2.2.2.2.2.1, (s.2.2.2.2.2.2.2.2.1, (s.2.2.2.2.2.2.2.2.2.1, (s.2.2.2.2.2.2.2.2.2.2.1, ())))))))))))))
def r_impl_TriangleStar (c_impl_NetOk : ((Int × Int × Int × List (Int × Int × Int)) × Unit → Option Bool)) (c_impl_WeightBetween : ((Int × Int × Int × List (Int × Int × Int)) × Int × Int × Unit → Option Int)) (c_impl_table : ((Int × Int × Int × List (Int × Int × Int)) × Unit → Option (List (List Int)))) (c_impl_netOf : (Int × Int × (List (List Int)) × Bool × Unit → Option ((Int × Int × Int × List (Int × Int × Int)) × Bool))) (N : Nat) (a0 : (Int × (Int × (Int × (List (Int × (Int × Int))))))) (a1 : Int) (a2 : Int) (a3 : Int) : Option ((Int × (Int × (Int × (List (Int × (Int × Int)))))) × Bool) :=
  (Option.bind (c_impl_NetOk (a0, ())) fun (x1 : Bool) =>
  (cond (!x1)
    (some (((0 : Int), ((0 : Int), ((0 : Int), ([] : List (Int × (Int × Int)))))), false))
    (cond (decide (a1 < (0 : Int)))
      (some (((0 : Int), ((0 : Int), ((0 : Int), ([] : List (Int × (Int × Int)))))), false))
      (cond (decide (a1 ≥ a2))
        (some (((0 : Int), ((0 : Int), ((0 : Int), ([] : List (Int × (Int × Int)))))), false))
        (cond (decide (a2 ≥ a3))
          (some (((0 : Int), ((0 : Int), ((0 : Int), ([] : List (Int × (Int × Int)))))), false))
          (cond (decide (a3 ≥ a0.1))
            (some (((0 : Int), ((0 : Int), ((0 : Int), ([] : List (Int × (Int × Int)))))), false))
            (cond (decide (a0.1 = (5 : Int)))
              (some (((0 : Int), ((0 : Int), ((0 : Int), ([] : List (Int × (Int × Int)))))), false))
              (Option.bind (c_impl_WeightBetween (a0, (a1, (a2, ())))) fun (x2 : Int) =>
              (Option.bind (c_impl_WeightBetween (a0, (a2, (a3, ())))) fun (x3 : Int) =>
              (Option.bind (c_impl_WeightBetween (a0, (a1, (a3, ())))) fun (x4 : Int) =>
              (cond (decide (x2 = (0 : Int)))
                (some (((0 : Int), ((0 : Int), ((0 : Int), ([] : List (Int × (Int × Int)))))), false))
                (cond (decide (x3 = (0 : Int)))
                  (some (((0 : Int), ((0 : Int), ((0 : Int), ([] : List (Int × (Int × Int)))))), false))
                  (cond (decide (x4 = (0 : Int)))
                    (some (((0 : Int), ((0 : Int), ((0 : Int), ([] : List (Int × (Int × Int)))))), false))
                    (Option.bind (c_impl_table (a0, ())) fun (x5 : (List (List Int))) =>
                    (iterK (r_impl_TriangleStar_L0 c_impl_NetOk c_impl_WeightBetween c_impl_table c_impl_netOf N) N (a1, (a2, (a3, (a0, (((0 : Int), ((0 : Int), ((0 : Int), ([] : List (Int × (Int × Int)))))), (x2, (x3, (x4, (x5, ((((List.length x5) : Nat) : Int), ((0 : Int), ()))))))))))) fun (s6 : (Int × (Int × (Int × ((Int × (Int × (Int × (List (Int × (Int × Int)))))) × ((Int × (Int × (Int × (List (Int × (Int × Int)))))) × (Int × (Int × (Int × ((List (List Int)) × (Int × (Int × Unit)))))))))))) =>
                    (cond (decide ((0 : Int) ≤ (wr (s6.2.2.2.1.1 + (1 : Int)))))
                      (cond (Nat.ble (Int.toNat (wr (s6.2.2.2.1.1 + (1 : Int)))) 17179869184)
                        (cond (Nat.ble ((List.length s6.2.2.2.2.2.2.2.2.1) + (List.length ((List.replicate (Int.toNat (wr (s6.2.2.2.1.1 + (1 : Int)))) (0 : Int)) :: ([] : List (List Int))))) 17179869184)
                          (iterK (r_impl_TriangleStar_L4 c_impl_NetOk c_impl_WeightBetween c_impl_table c_impl_netOf N) N (s6.1, (s6.2.1, (s6.2.2.1, (s6.2.2.2.1, (s6.2.2.2.2.1, (s6.2.2.2.2.2.1, (s6.2.2.2.2.2.2.1, (s6.2.2.2.2.2.2.2.1, ((s6.2.2.2.2.2.2.2.2.1 ++ ((List.replicate (Int.toNat (wr (s6.2.2.2.1.1 + (1 : Int)))) (0 : Int)) :: ([] : List (List Int)))), (((s6.1, s6.2.1) :: ((s6.2.1, s6.2.2.1) :: ((s6.1, s6.2.2.1) :: ([] : List (Int × Int))))), ((((List.length ((s6.1, s6.2.1) :: ((s6.2.1, s6.2.2.1) :: ((s6.1, s6.2.2.1) :: ([] : List (Int × Int)))))) : Nat) : Int), ((0 : Int), ())))))))))))) fun (s7 : (Int × (Int × (Int × ((Int × (Int × (Int × (List (Int × (Int × Int)))))) × ((Int × (Int × (Int × (List (Int × (Int × Int)))))) × (Int × (Int × (Int × ((List (List Int)) × ((List (Int × Int)) × (Int × (Int × Unit))))))))))))) =>
                          (Option.bind (getI s7.2.2.2.2.2.2.2.2.1 s7.1) fun (x8 : (List Int)) =>
                          (Option.bind (getI x8 s7.2.2.2.1.1) fun (_x9 : Int) =>
                          (Option.bind (getI (List.set s7.2.2.2.2.2.2.2.2.1 (Int.toNat s7.1) (List.set x8 (Int.toNat s7.2.2.2.1.1) (wr ((wr ((wr ((wr ((wr (s7.2.2.2.2.2.1 * s7.2.2.2.2.2.2.1)) + (wr (s7.2.2.2.2.2.2.1 * s7.2.2.2.2.2.2.2.1)))) + (wr (s7.2.2.2.2.2.2.2.1 * s7.2.2.2.2.2.1)))) * s7.2.2.2.2.2.1)) * s7.2.2.2.2.2.2.2.1)))) s7.2.1) fun (x10 : (List Int)) =>
                          (Option.bind (getI x10 s7.2.2.2.1.1) fun (_x11 : Int) =>
                          (Option.bind (getI (List.set (List.set s7.2.2.2.2.2.2.2.2.1 (Int.toNat s7.1) (List.set x8 (Int.toNat s7.2.2.2.1.1) (wr ((wr ((wr ((wr ((wr (s7.2.2.2.2.2.1 * s7.2.2.2.2.2.2.1)) + (wr (s7.2.2.2.2.2.2.1 * s7.2.2.2.2.2.2.2.1)))) + (wr (s7.2.2.2.2.2.2.2.1 * s7.2.2.2.2.2.1)))) * s7.2.2.2.2.2.1)) * s7.2.2.2.2.2.2.2.1)))) (Int.toNat s7.2.1) (List.set x10 (Int.toNat s7.2.2.2.1.1) (wr ((wr ((wr ((wr ((wr (s7.2.2.2.2.2.1 * s7.2.2.2.2.2.2.1)) + (wr (s7.2.2.2.2.2.2.1 * s7.2.2.2.2.2.2.2.1)))) + (wr (s7.2.2.2.2.2.2.2.1 * s7.2.2.2.2.2.1)))) * s7.2.2.2.2.2.1)) * s7.2.2.2.2.2.2.1)))) s7.2.2.1) fun (x12 : (List Int)) =>
                          (Option.bind (getI x12 s7.2.2.2.1.1) fun (_x13 : Int) =>
                          (Option.bind (c_impl_netOf (s7.2.2.2.1.2.1, ((wr ((wr ((wr (s7.2.2.2.1.2.2.1 * s7.2.2.2.2.2.1)) * s7.2.2.2.2.2.2.1)) * s7.2.2.2.2.2.2.2.1)), ((List.set (List.set (List.set s7.2.2.2.2.2.2.2.2.1 (Int.toNat s7.1) (List.set x8 (Int.toNat s7.2.2.2.1.1) (wr ((wr ((wr ((wr ((wr (s7.2.2.2.2.2.1 * s7.2.2.2.2.2.2.1)) + (wr (s7.2.2.2.2.2.2.1 * s7.2.2.2.2.2.2.2.1)))) + (wr (s7.2.2.2.2.2.2.2.1 * s7.2.2.2.2.2.1)))) * s7.2.2.2.2.2.1)) * s7.2.2.2.2.2.2.2.1)))) (Int.toNat s7.2.1) (List.set x10 (Int.toNat s7.2.2.2.1.1) (wr ((wr ((wr ((wr ((wr (s7.2.2.2.2.2.1 * s7.2.2.2.2.2.2.1)) + (wr (s7.2.2.2.2.2.2.1 * s7.2.2.2.2.2.2.2.1)))) + (wr (s7.2.2.2.2.2.2.2.1 * s7.2.2.2.2.2.1)))) * s7.2.2.2.2.2.1)) * s7.2.2.2.2.2.2.1)))) (Int.toNat s7.2.2.1) (List.set x12 (Int.toNat s7.2.2.2.1.1) (wr ((wr ((wr ((wr ((wr (s7.2.2.2.2.2.1 * s7.2.2.2.2.2.2.1)) + (wr (s7.2.2.2.2.2.2.1 * s7.2.2.2.2.2.2.2.1)))) + (wr (s7.2.2.2.2.2.2.2.1 * s7.2.2.2.2.2.1)))) * s7.2.2.2.2.2.2.1)) * s7.2.2.2.2.2.2.2.1)))), (true, ()))))) fun (x14 : ((Int × (Int × (Int × (List (Int × (Int × Int)))))) × Bool)) =>
                          (some (x14.1, x14.2))))))))))
                          none)
                        none)
                      none))))))))))))))))

noncomputable def e_impl_TriangleStar (a : (Int × Int × Int × List (Int × Int × Int)) × Int × Int × Int × Unit) : Option ((Int × Int × Int × List (Int × Int × Int)) × Bool) := r_impl_TriangleStar e_impl_NetOk e_impl_WeightBetween e_impl_table e_impl_netOf N0 a.1 a.2.1 a.2.2.1 a.2.2.2.1
def r_impl_WeightAt_L0 (_N : Nat) (s : (Int × (Int × ((List (Int × (Int × Int))) × (Int × (Int × Unit)))))) (kc ke : (Int × (Int × ((List (Int × (Int × Int))) × (Int × (Int × Unit))))) → Option Int) : Option Int :=
  (cond (decide (s.2.2.2.2.1 < s.2.2.2.1))
    (Option.bind (getI s.2.2.1 s.2.2.2.2.1) fun (x1 : (Int × (Int × Int))) =>
    (cond (decide (x1.1 = s.1))
      (kc (s.1, ((wr (s.2.1 + x1.2.2)), (s.2.2.1, (s.2.2.2.1, ((wr (s.2.2.2.2.1 + (1 : Int))), ()))))))
      (cond (decide (x1.2.1 = s.1))
        (kc (s.1, ((wr (s.2.1 + x1.2.2)), (s.2.2.1, (s.2.2.2.1, ((wr (s.2.2.2.2.1 + (1 : Int))), ()))))))
        (kc (s.1, (s.2.1, (s.2.2.1, (s.2.2.2.1, ((wr (s.2.2.2.2.1 + (1 : Int))), ())))))))))
    (ke (s.1, (s.2.1, (s.2.2.1, (s.2.2.2.1, (s.2.2.2.2.1, ())))))))
def r_impl_WeightAt (N : Nat) (a0 : (Int × (Int × (Int × (List (Int × (Int × Int))))))) (a1 : Int) : Option Int :=
  (iterK (r_impl_WeightAt_L0 N) N (a1, ((0 : Int), (a0.2.2.2, ((((List.length a0.2.2.2) : Nat) : Int), ((0 : Int), ()))))) fun (s1 : (Int × (Int × ((List (Int × (Int × Int))) × (Int × (Int × Unit)))))) =>
  (some s1.2.1))

noncomputable def e_impl_WeightAt (a : (Int × Int × Int × List (Int × Int × Int)) × Int × Unit) : Option Int := r_impl_WeightAt N0 a.1 a.2.1
noncomputable def r_slices_Clone_int (_N : Nat) (a0 : (List Int)) : Option (List Int) :=
  (cond (List.isEmpty a0)
    (agree
      (some ([] : List Int))
      (cond (Nat.ble ((List.length ([] : List Int)) + (List.length a0)) 17179869184)
        (some (([] : List Int) ++ a0))
        none))
    (cond (Nat.ble ((List.length ([] : List Int)) + (List.length a0)) 17179869184)
      (some (([] : List Int) ++ a0))
      none))

noncomputable def e_slices_Clone_int (a : (List Int) × Unit) : Option (List Int) := r_slices_Clone_int N0 a.1
noncomputable def e_slices_Delete_int (y : List Int) (a : Int × Int × Unit) : Option (List Int × List Int) := delFn y a

def r_impl_without_L0 (c_slices_Clone_int : ((List Int) × Unit → Option (List Int))) (m_slices_Delete_int : ((List Int) → (Int × Int × Unit) → Option ((List Int) × (List Int)))) (_N : Nat) (s : (Int × ((List (List Int)) × ((List (List Int)) × (Int × (Int × Unit)))))) (kc ke : (Int × ((List (List Int)) × ((List (List Int)) × (Int × (Int × Unit))))) → Option (List (List Int))) : Option (List (List Int)) :=
  (cond (decide (s.2.2.2.2.1 < s.2.2.2.1))
    (Option.bind (getI s.2.2.1 s.2.2.2.2.1) fun (x1 : (List Int)) =>
    (cond (!(decide (s.2.2.2.2.1 = s.1)))
      (Option.bind (c_slices_Clone_int (x1, ())) fun (x2 : (List Int)) =>
      (Option.bind (m_slices_Delete_int x2 (s.1, ((wr (s.1 + (1 : Int))), ()))) fun (x3 : ((List Int) × (List Int))) =>
      (cond (Nat.ble ((List.length s.2.1) + (List.length (x3.2 :: ([] : List (List Int))))) 17179869184)
        (kc (s.1, ((s.2.1 ++ (x3.2 :: ([] : List (List Int)))), (s.2.2.1, (s.2.2.2.1, ((wr (s.2.2.2.2.1 + (1 : Int))), ()))))))
        none)))
      (kc (s.1, (s.2.1, (s.2.2.1, (s.2.2.2.1, ((wr (s.2.2.2.2.1 + (1 : Int))), ()))))))))
    (ke (s.1, (s.2.1, (s.2.2.1, (s.2.2.2.1, (s.2.2.2.2.1, ())))))))
def r_impl_without (c_slices_Clone_int : ((List Int) × Unit → Option (List Int))) (m_slices_Delete_int : ((List Int) → (Int × Int × Unit) → Option ((List Int) × (List Int)))) (N : Nat) (a0 : (List (List Int))) (a1 : Int) : Option (List (List Int)) :=
  (iterK (r_impl_without_L0 c_slices_Clone_int m_slices_Delete_int N) N (a1, (([] : List (List Int)), (a0, ((((List.length a0) : Nat) : Int), ((0 : Int), ()))))) fun (s1 : (Int × ((List (List Int)) × ((List (List Int)) × (Int × (Int × Unit)))))) =>
  (some s1.2.1))

noncomputable def e_impl_without (a : (List (List Int)) × Int × Unit) : Option (List (List Int)) := r_impl_without e_slices_Clone_int e_slices_Delete_int N0 a.1 a.2.1
def r_impl_StarMesh_L2 (_c_impl_NetOk : ((Int × Int × Int × List (Int × Int × Int)) × Unit → Option Bool)) (_c_impl_table : ((Int × Int × Int × List (Int × Int × Int)) × Unit → Option (List (List Int)))) (_c_impl_WeightAt : ((Int × Int × Int × List (Int × Int × Int)) × Int × Unit → Option Int)) (_c_impl_without : ((List (List Int)) × Int × Unit → Option (List (List Int)))) (_c_impl_netOf : (Int × Int × (List (List Int)) × Bool × Unit → Option ((Int × Int × Int × List (Int × Int × Int)) × Bool))) (_N : Nat) (s : (Int × ((Int × (Int × (Int × (List (Int × (Int × Int)))))) × ((Int × (Int × (Int × (List (Int × (Int × Int)))))) × ((List (List Int)) × (Int × (Int × (Int × (Int × (Int × (Int × Unit))))))))))) (kc ke : (Int × ((Int × (Int × (Int × (List (Int × (Int × Int)))))) × ((Int × (Int × (Int × (List (Int × (Int × Int)))))) × ((List (List Int)) × (Int × (Int × (Int × (Int × (Int × (Int × Unit)))))))))) → Option ((Int × (Int × (Int × (List (Int × (Int × Int)))))) × Bool)) : Option ((Int × (Int × (Int × (List (Int × (Int × Int)))))) × Bool) :=
  (cond (decide (s.2.2.2.2.2.2.2.2.2.1 < s.2.2.2.2.2.2.2.2.1))
    (cond (!(decide (s.2.2.2.2.2.1 = s.1)))
      (cond (!(decide (s.2.2.2.2.2.2.2.2.2.1 = s.1)))
        (cond (!(decide (s.2.2.2.2.2.1 = s.2.2.2.2.2.2.2.2.2.1)))
          (Option.bind (getI s.2.2.2.1 s.2.2.2.2.2.1) fun (x1 : (List Int)) =>
          (Option.bind (getI s.2.2.2.1 s.2.2.2.2.2.1) fun (x2 : (List Int)) =>
          (Option.bind (getI x2 s.2.2.2.2.2.2.2.2.2.1) fun (x3 : Int) =>
          (Option.bind (getI s.2.2.2.1 s.2.2.2.2.2.1) fun (x4 : (List Int)) =>
          (Option.bind (getI x4 s.1) fun (x5 : Int) =>
          (Option.bind (getI s.2.2.2.1 s.1) fun (x6 : (List Int)) =>
          (Option.bind (getI x6 s.2.2.2.2.2.2.2.2.2.1) fun (x7 : Int) =>
          (Option.bind (getI x1 s.2.2.2.2.2.2.2.2.2.1) fun (_x8 : Int) =>
          (kc (s.1, (s.2.1, (s.2.2.1, ((List.set s.2.2.2.1 (Int.toNat s.2.2.2.2.2.1) (List.set x1 (Int.toNat s.2.2.2.2.2.2.2.2.2.1) (wr ((wr (x3 * s.2.2.2.2.1)) + (wr (x5 * x7)))))), (s.2.2.2.2.1, (s.2.2.2.2.2.1, (s.2.2.2.2.2.2.1, (s.2.2.2.2.2.2.2.1, (s.2.2.2.2.2.2.2.2.1, ((wr (s.2.2.2.2.2.2.2.2.2.1 + (1 : Int))), ())))))))))))))))))))
          (kc (s.1, (s.2.1, (s.2.2.1, (s.2.2.2.1, (s.2.2.2.2.1, (s.2.2.2.2.2.1, (s.2.2.2.2.2.2.1, (s.2.2.2.2.2.2.2.1, (s.2.2.2.2.2.2.2.2.1, ((wr (s.2.2.2.2.2.2.2.2.2.1 + (1 : Int))), ()))))))))))))
        (kc (s.1, (s.2.1, (s.2.2.1, (s.2.2.2.1, (s.2.2.2.2.1, (s.2.2.2.2.2.1, (s.2.2.2.2.2.2.1, (s.2.2.2.2.2.2.2.1, (s.2.2.2.2.2.2.2.2.1, ((wr (s.2.2.2.2.2.2.2.2.2.1 + (1 : Int))), ()))))))))))))
      (kc (s.1, (s.2.1, (s.2.2.1, (s.2.2.2.1, (s.2.2.2.2.1, (s.2.2.2.2.2.1, (s.2.2.2.2.2.2.1, (s.2.2.2.2.2.2.2.1, (s.2.2.2.2.2.2.2.2.1, ((wr (s.2.2.2.2.2.2.2.2.2.1 + (1 : Int))), ()))))))))))))
    (ke (s.1, (s.2.1, (s.2.2.1, (s.2.2.2.1, (s.2.2.2.2.1, (s.2.2.2.2.2.1, (s.2.2.2.2.2.2.1, (s.2.2.2.2.2.2.2.1, (s.2.2.2.2.2.2.2.2.1, (s.2.2.2.2.2.2.2.2.2.1, ()))))))))))))
def r_impl_StarMesh_L0 (c_impl_NetOk : ((Int × Int × Int × List (Int × Int × Int)) × Unit → Option Bool)) (c_impl_table : ((Int × Int × Int × List (Int × Int × Int)) × Unit → Option (List (List Int)))) (c_impl_WeightAt : ((Int × Int × Int × List (Int × Int × Int)) × Int × Unit → Option Int)) (c_impl_without : ((List (List Int)) × Int × Unit → Option (List (List Int)))) (c_impl_netOf : (Int × Int × (List (List Int)) × Bool × Unit → Option ((Int × Int × Int × List (Int × Int × Int)) × Bool))) (N : Nat) (s : (Int × ((Int × (Int × (Int × (List (Int × (Int × Int)))))) × ((Int × (Int × (Int × (List (Int × (Int × Int)))))) × ((List (List Int)) × (Int × (Int × (Int × Unit)))))))) (kc ke : (Int × ((Int × (Int × (Int × (List (Int × (Int × Int)))))) × ((Int × (Int × (Int × (List (Int × (Int × Int)))))) × ((List (List Int)) × (Int × (Int × (Int × Unit))))))) → Option ((Int × (Int × (Int × (List (Int × (Int × Int)))))) × Bool)) : Option ((Int × (Int × (Int × (List (Int × (Int × Int)))))) × Bool) :=
  (cond (decide (s.2.2.2.2.2.2.1 < s.2.2.2.2.2.1))
    (iterK (r_impl_StarMesh_L2 c_impl_NetOk c_impl_table c_impl_WeightAt c_impl_without c_impl_netOf N) N (s.1, (s.2.1, (s.2.2.1, (s.2.2.2.1, (s.2.2.2.2.1, (s.2.2.2.2.2.2.1, (s.2.2.2.2.2.1, (s.2.2.2.2.2.2.1, ((((List.length s.2.2.2.1) : Nat) : Int), ((0 : Int), ())))))))))) fun (s1 : (Int × ((Int × (Int × (Int × (List (Int × (Int × Int)))))) × ((Int × (Int × (Int × (List (Int × (Int × Int)))))) × ((List (List Int)) × (Int × (Int × (Int × (Int × (Int × (Int × Unit))))))))))) =>
    (kc (s1.1, (s1.2.1, (s1.2.2.1, (s1.2.2.2.1, (s1.2.2.2.2.1, (s1.2.2.2.2.2.2.1, ((wr (s1.2.2.2.2.2.2.2.1 + (1 : Int))), ())))))))))
    (ke (s.1, (s.2.1, (s.2.2.1, (s.2.2.2.1, (s.2.2.2.2.1, (s.2.2.2.2.2.1, (s.2.2.2.2.2.2.1, ())))))))))
def r_impl_StarMesh (c_impl_NetOk : ((Int × Int × Int × List (Int × Int × Int)) × Unit → Option Bool)) (c_impl_table : ((Int × Int × Int × List (Int × Int × Int)) × Unit → Option (List (List Int)))) (c_impl_WeightAt : ((Int × Int × Int × List (Int × Int × Int)) × Int × Unit → Option Int)) (c_impl_without : ((List (List Int)) × Int × Unit → Option (List (List Int)))) (c_impl_netOf : (Int × Int × (List (List Int)) × Bool × Unit → Option ((Int × Int × Int × List (Int × Int × Int)) × Bool))) (N : Nat) (a0 : (Int × (Int × (Int × (List (Int × (Int × Int))))))) (a1 : Int) : Option ((Int × (Int × (Int × (List (Int × (Int × Int)))))) × Bool) :=
  (Option.bind (c_impl_NetOk (a0, ())) fun (x1 : Bool) =>
  (cond (!x1)
    (some (((0 : Int), ((0 : Int), ((0 : Int), ([] : List (Int × (Int × Int)))))), false))
    (cond (decide (a1 < a0.2.1))
      (some (((0 : Int), ((0 : Int), ((0 : Int), ([] : List (Int × (Int × Int)))))), false))
      (cond (decide (a1 ≥ a0.1))
        (some (((0 : Int), ((0 : Int), ((0 : Int), ([] : List (Int × (Int × Int)))))), false))
        (Option.bind (c_impl_table (a0, ())) fun (x2 : (List (List Int))) =>
        (Option.bind (c_impl_WeightAt (a0, (a1, ()))) fun (x3 : Int) =>
        (iterK (r_impl_StarMesh_L0 c_impl_NetOk c_impl_table c_impl_WeightAt c_impl_without c_impl_netOf N) N (a1, (a0, (((0 : Int), ((0 : Int), ((0 : Int), ([] : List (Int × (Int × Int)))))), (x2, (x3, ((((List.length x2) : Nat) : Int), ((0 : Int), ()))))))) fun (s4 : (Int × ((Int × (Int × (Int × (List (Int × (Int × Int)))))) × ((Int × (Int × (Int × (List (Int × (Int × Int)))))) × ((List (List Int)) × (Int × (Int × (Int × Unit)))))))) =>
        (Option.bind (c_impl_without (s4.2.2.2.1, (s4.1, ()))) fun (x5 : (List (List Int))) =>
        (Option.bind (c_impl_netOf (s4.2.1.2.1, ((wr (s4.2.1.2.2.1 * s4.2.2.2.2.1)), (x5, (true, ()))))) fun (x6 : ((Int × (Int × (Int × (List (Int × (Int × Int)))))) × Bool)) =>
        (some (x6.1, x6.2)))))))))))

noncomputable def e_impl_StarMesh (a : (Int × Int × Int × List (Int × Int × Int)) × Int × Unit) : Option ((Int × Int × Int × List (Int × Int × Int)) × Bool) := r_impl_StarMesh e_impl_NetOk e_impl_table e_impl_WeightAt e_impl_without e_impl_netOf N0 a.1 a.2.1
def r_impl_CanonNet (c_impl_NetOk : ((Int × Int × Int × List (Int × Int × Int)) × Unit → Option Bool)) (c_impl_table : ((Int × Int × Int × List (Int × Int × Int)) × Unit → Option (List (List Int)))) (c_impl_netOf : (Int × Int × (List (List Int)) × Bool × Unit → Option ((Int × Int × Int × List (Int × Int × Int)) × Bool))) (_N : Nat) (a0 : (Int × (Int × (Int × (List (Int × (Int × Int))))))) : Option ((Int × (Int × (Int × (List (Int × (Int × Int)))))) × Bool) :=
  (Option.bind (c_impl_NetOk (a0, ())) fun (x1 : Bool) =>
  (cond (!x1)
    (some (((0 : Int), ((0 : Int), ((0 : Int), ([] : List (Int × (Int × Int)))))), false))
    (Option.bind (c_impl_table (a0, ())) fun (x2 : (List (List Int))) =>
    (Option.bind (c_impl_netOf (a0.2.1, (a0.2.2.1, (x2, (true, ()))))) fun (x3 : ((Int × (Int × (Int × (List (Int × (Int × Int)))))) × Bool)) =>
    (some (x3.1, x3.2))))))

noncomputable def e_impl_CanonNet (a : (Int × Int × Int × List (Int × Int × Int)) × Unit) : Option ((Int × Int × Int × List (Int × Int × Int)) × Bool) := r_impl_CanonNet e_impl_NetOk e_impl_table e_impl_netOf N0 a.1
def r_impl_LaplacianOf_L2 (_c_impl_NetOk : ((Int × Int × Int × List (Int × Int × Int)) × Unit → Option Bool)) (_c_impl_table : ((Int × Int × Int × List (Int × Int × Int)) × Unit → Option (List (List Int)))) (_c_impl_WeightAt : ((Int × Int × Int × List (Int × Int × Int)) × Int × Unit → Option Int)) (_N : Nat) (s : ((Int × (Int × (Int × (List (Int × (Int × Int)))))) × ((List (List Int)) × (Int × (Int × (Int × (Int × (Int × Unit)))))))) (kc ke : ((Int × (Int × (Int × (List (Int × (Int × Int)))))) × ((List (List Int)) × (Int × (Int × (Int × (Int × (Int × Unit))))))) → Option (List (List Int))) : Option (List (List Int)) :=
  (cond (decide (s.2.2.2.2.2.2.1 < s.2.2.2.2.2.1))
    (Option.bind (getI s.2.1 s.2.2.1) fun (x1 : (List Int)) =>
    (Option.bind (getI s.2.1 s.2.2.1) fun (x2 : (List Int)) =>
    (Option.bind (getI x2 s.2.2.2.2.2.2.1) fun (x3 : Int) =>
    (Option.bind (getI x1 s.2.2.2.2.2.2.1) fun (_x4 : Int) =>
    (kc (s.1, ((List.set s.2.1 (Int.toNat s.2.2.1) (List.set x1 (Int.toNat s.2.2.2.2.2.2.1) (wr ((0 : Int) - x3)))), (s.2.2.1, (s.2.2.2.1, (s.2.2.2.2.1, (s.2.2.2.2.2.1, ((wr (s.2.2.2.2.2.2.1 + (1 : Int))), ()))))))))))))
    (ke (s.1, (s.2.1, (s.2.2.1, (s.2.2.2.1, (s.2.2.2.2.1, (s.2.2.2.2.2.1, (s.2.2.2.2.2.2.1, ())))))))))
def r_impl_LaplacianOf_L0 (c_impl_NetOk : ((Int × Int × Int × List (Int × Int × Int)) × Unit → Option Bool)) (c_impl_table : ((Int × Int × Int × List (Int × Int × Int)) × Unit → Option (List (List Int)))) (c_impl_WeightAt : ((Int × Int × Int × List (Int × Int × Int)) × Int × Unit → Option Int)) (N : Nat) (s : ((Int × (Int × (Int × (List (Int × (Int × Int)))))) × ((List (List Int)) × (Int × (Int × Unit))))) (kc ke : ((Int × (Int × (Int × (List (Int × (Int × Int)))))) × ((List (List Int)) × (Int × (Int × Unit)))) → Option (List (List Int))) : Option (List (List Int)) :=
  (cond (decide (s.2.2.2.1 < s.2.2.1))
    (iterK (r_impl_LaplacianOf_L2 c_impl_NetOk c_impl_table c_impl_WeightAt N) N (s.1, (s.2.1, (s.2.2.2.1, (s.2.2.1, (s.2.2.2.1, ((((List.length s.2.1) : Nat) : Int), ((0 : Int), ()))))))) fun (s1 : ((Int × (Int × (Int × (List (Int × (Int × Int)))))) × ((List (List Int)) × (Int × (Int × (Int × (Int × (Int × Unit)))))))) =>
    (Option.bind (getI s1.2.1 s1.2.2.1) fun (x2 : (List Int)) =>
    (Option.bind (c_impl_WeightAt (s1.1, (s1.2.2.1, ()))) fun (x3 : Int) =>
    (Option.bind (getI x2 s1.2.2.1) fun (_x4 : Int) =>
    (kc (s1.1, ((List.set s1.2.1 (Int.toNat s1.2.2.1) (List.set x2 (Int.toNat s1.2.2.1) x3)), (s1.2.2.2.1, ((wr (s1.2.2.2.2.1 + (1 : Int))), ())))))))))
    (ke (s.1, (s.2.1, (s.2.2.1, (s.2.2.2.1, ()))))))
def r_impl_LaplacianOf (c_impl_NetOk : ((Int × Int × Int × List (Int × Int × Int)) × Unit → Option Bool)) (c_impl_table : ((Int × Int × Int × List (Int × Int × Int)) × Unit → Option (List (List Int)))) (c_impl_WeightAt : ((Int × Int × Int × List (Int × Int × Int)) × Int × Unit → Option Int)) (N : Nat) (a0 : (Int × (Int × (Int × (List (Int × (Int × Int))))))) : Option (List (List Int)) :=
  (Option.bind (c_impl_NetOk (a0, ())) fun (x1 : Bool) =>
  (cond (!x1)
    (some ([] : List (List Int)))
    (Option.bind (c_impl_table (a0, ())) fun (x2 : (List (List Int))) =>
    (iterK (r_impl_LaplacianOf_L0 c_impl_NetOk c_impl_table c_impl_WeightAt N) N (a0, (x2, ((((List.length x2) : Nat) : Int), ((0 : Int), ())))) fun (s3 : ((Int × (Int × (Int × (List (Int × (Int × Int)))))) × ((List (List Int)) × (Int × (Int × Unit))))) =>
    (some s3.2.1)))))

noncomputable def e_impl_LaplacianOf (a : (Int × Int × Int × List (Int × Int × Int)) × Unit) : Option (List (List Int)) := r_impl_LaplacianOf e_impl_NetOk e_impl_table e_impl_WeightAt N0 a.1
def r_impl_inner_L0 (_N : Nat) (s : ((Int × (Int × (Int × (List (Int × (Int × Int)))))) × ((List Int) × (Int × Unit)))) (kc ke : ((Int × (Int × (Int × (List (Int × (Int × Int)))))) × ((List Int) × (Int × Unit))) → Option (List Int)) : Option (List Int) :=
  (cond (decide (s.2.2.1 < s.1.1))
    (cond (Nat.ble ((List.length s.2.1) + (List.length (s.2.2.1 :: ([] : List Int)))) 17179869184)
      (kc (s.1, ((s.2.1 ++ (s.2.2.1 :: ([] : List Int))), ((wr (s.2.2.1 + (1 : Int))), ()))))
      none)
    (ke (s.1, (s.2.1, (s.2.2.1, ())))))
def r_impl_inner (N : Nat) (a0 : (Int × (Int × (Int × (List (Int × (Int × Int))))))) : Option (List Int) :=
  (iterK (r_impl_inner_L0 N) N (a0, (([] : List Int), (a0.2.1, ()))) fun (s1 : ((Int × (Int × (Int × (List (Int × (Int × Int)))))) × ((List Int) × (Int × Unit)))) =>
  (some s1.2.1))

noncomputable def e_impl_inner (a : (Int × Int × Int × List (Int × Int × Int)) × Unit) : Option (List Int) := r_impl_inner N0 a.1
def r_impl_det_L0 (c_slices_Clone_int : ((List Int) × Unit → Option (List Int))) (m_slices_Delete_int : ((List Int) → (Int × Int × Unit) → Option ((List Int) × (List Int)))) (c_impl_det : ((List (List Int)) × (List Int) × (List Int) × Unit → Option Int)) (_N : Nat) (s : ((List (List Int)) × ((List Int) × ((List Int) × (Int × (Int × ((List Int) × (Int × (Int × Unit))))))))) (kc ke : ((List (List Int)) × ((List Int) × ((List Int) × (Int × (Int × ((List Int) × (Int × (Int × Unit)))))))) → Option Int) : Option Int :=
  (cond (decide (s.2.2.2.2.2.2.2.1 < s.2.2.2.2.2.2.1))
    (Option.bind (getI s.2.2.2.2.2.1 s.2.2.2.2.2.2.2.1) fun (x1 : Int) =>
    (Option.bind (getI s.2.1 (0 : Int)) fun (x2 : Int) =>
    (Option.bind (getI s.1 x2) fun (x3 : (List Int)) =>
    (Option.bind (getI x3 x1) fun (x4 : Int) =>
    (cond (!(decide (x4 = (0 : Int))))
      (cond (decide ((1 : Int) ≤ (((List.length s.2.1) : Nat) : Int)))
        (cond (decide ((((List.length s.2.1) : Nat) : Int) ≤ (((List.length s.2.1) : Nat) : Int)))
          (Option.bind (c_slices_Clone_int (s.2.2.1, ())) fun (x5 : (List Int)) =>
          (Option.bind (m_slices_Delete_int x5 (s.2.2.2.2.2.2.2.1, ((wr (s.2.2.2.2.2.2.2.1 + (1 : Int))), ()))) fun (x6 : ((List Int) × (List Int))) =>
          (Option.bind (c_impl_det (s.1, ((List.take ((Int.toNat (((List.length s.2.1) : Nat) : Int)) - (Int.toNat (1 : Int))) (List.drop (Int.toNat (1 : Int)) s.2.1)), (x6.2, ())))) fun (x7 : Int) =>
          (kc (s.1, (s.2.1, (s.2.2.1, ((wr (s.2.2.2.1 + (wr ((wr (s.2.2.2.2.1 * x4)) * x7)))), ((wr ((0 : Int) - s.2.2.2.2.1)), (s.2.2.2.2.2.1, (s.2.2.2.2.2.2.1, ((wr (s.2.2.2.2.2.2.2.1 + (1 : Int))), ()))))))))))))
          none)
        none)
      (kc (s.1, (s.2.1, (s.2.2.1, (s.2.2.2.1, ((wr ((0 : Int) - s.2.2.2.2.1)), (s.2.2.2.2.2.1, (s.2.2.2.2.2.2.1, ((wr (s.2.2.2.2.2.2.2.1 + (1 : Int))), ()))))))))))))))
    (ke (s.1, (s.2.1, (s.2.2.1, (s.2.2.2.1, (s.2.2.2.2.1, (s.2.2.2.2.2.1, (s.2.2.2.2.2.2.1, (s.2.2.2.2.2.2.2.1, ()))))))))))
def r_impl_det (c_slices_Clone_int : ((List Int) × Unit → Option (List Int))) (m_slices_Delete_int : ((List Int) → (Int × Int × Unit) → Option ((List Int) × (List Int)))) (c_impl_det : ((List (List Int)) × (List Int) × (List Int) × Unit → Option Int)) (N : Nat) (a0 : (List (List Int))) (a1 : (List Int)) (a2 : (List Int)) : Option Int :=
  (cond (decide ((((List.length a1) : Nat) : Int) = (0 : Int)))
    (some (1 : Int))
    (iterK (r_impl_det_L0 c_slices_Clone_int m_slices_Delete_int c_impl_det N) N (a0, (a1, (a2, ((0 : Int), ((1 : Int), (a2, ((((List.length a2) : Nat) : Int), ((0 : Int), ())))))))) fun (s1 : ((List (List Int)) × ((List Int) × ((List Int) × (Int × (Int × ((List Int) × (Int × (Int × Unit))))))))) =>
    (some s1.2.2.2.1)))

noncomputable def e_impl_det_n : Nat → ((List (List Int)) × (List Int) × (List Int) × Unit) → Option Int
  | 0, _ => none
  | n + 1, a => r_impl_det e_slices_Clone_int e_slices_Delete_int (e_impl_det_n n) N0 a.1 a.2.1 a.2.2.1
noncomputable def e_impl_det (a : (List (List Int)) × (List Int) × (List Int) × Unit) : Option Int := e_impl_det_n N0 a
def r_impl_response_L2 (_c_impl_LaplacianOf : ((Int × Int × Int × List (Int × Int × Int)) × Unit → Option (List (List Int)))) (_c_impl_inner : ((Int × Int × Int × List (Int × Int × Int)) × Unit → Option (List Int))) (c_impl_det : ((List (List Int)) × (List Int) × (List Int) × Unit → Option Int)) (_N : Nat) (s : ((Int × (Int × (Int × (List (Int × (Int × Int)))))) × ((List (List Int)) × ((List Int) × ((List (List Int)) × (Int × (Int × (Int × (Int × (Int × Unit)))))))))) (kc ke : ((Int × (Int × (Int × (List (Int × (Int × Int)))))) × ((List (List Int)) × ((List Int) × ((List (List Int)) × (Int × (Int × (Int × (Int × (Int × Unit))))))))) → Option ((List (List Int)) × Int)) : Option ((List (List Int)) × Int) :=
  (cond (decide (s.2.2.2.2.2.2.2.2.1 < s.2.2.2.2.2.2.2.1))
    (Option.bind (getI s.2.2.2.1 s.2.2.2.2.1) fun (x1 : (List Int)) =>
    (cond (Nat.ble ((List.length (s.2.2.2.2.1 :: ([] : List Int))) + (List.length s.2.2.1)) 17179869184)
      (cond (Nat.ble ((List.length (s.2.2.2.2.2.2.2.2.1 :: ([] : List Int))) + (List.length s.2.2.1)) 17179869184)
        (Option.bind (c_impl_det (s.2.1, (((s.2.2.2.2.1 :: ([] : List Int)) ++ s.2.2.1), (((s.2.2.2.2.2.2.2.2.1 :: ([] : List Int)) ++ s.2.2.1), ())))) fun (x2 : Int) =>
        (cond (Nat.ble ((List.length x1) + (List.length (x2 :: ([] : List Int)))) 17179869184)
          (Option.bind (getI s.2.2.2.1 s.2.2.2.2.1) fun (_x3 : (List Int)) =>
          (cond (@Go.Sx.samePath (([] : List PS) ++ ((@Go.Sx.PS.idx (Int.toNat s.2.2.2.2.1)) :: ([] : List PS))) (([] : List PS) ++ ((@Go.Sx.PS.idx (Int.toNat s.2.2.2.2.1)) :: ([] : List PS))))
            (kc (s.1, (s.2.1, (s.2.2.1, ((List.set s.2.2.2.1 (Int.toNat s.2.2.2.2.1) (x1 ++ (x2 :: ([] : List Int)))), (s.2.2.2.2.1, (s.2.2.2.2.2.1, (s.2.2.2.2.2.2.1, (s.2.2.2.2.2.2.2.1, ((wr (s.2.2.2.2.2.2.2.2.1 + (1 : Int))), ()))))))))))
            none))
          none))
        none)
      none))
    (ke (s.1, (s.2.1, (s.2.2.1, (s.2.2.2.1, (s.2.2.2.2.1, (s.2.2.2.2.2.1, (s.2.2.2.2.2.2.1, (s.2.2.2.2.2.2.2.1, (s.2.2.2.2.2.2.2.2.1, ())))))))))))
def r_impl_response_L0 (c_impl_LaplacianOf : ((Int × Int × Int × List (Int × Int × Int)) × Unit → Option (List (List Int)))) (c_impl_inner : ((Int × Int × Int × List (Int × Int × Int)) × Unit → Option (List Int))) (c_impl_det : ((List (List Int)) × (List Int) × (List Int) × Unit → Option Int)) (N : Nat) (s : ((Int × (Int × (Int × (List (Int × (Int × Int)))))) × ((List (List Int)) × ((List Int) × ((List (List Int)) × (Int × (Int × Unit))))))) (kc ke : ((Int × (Int × (Int × (List (Int × (Int × Int)))))) × ((List (List Int)) × ((List Int) × ((List (List Int)) × (Int × (Int × Unit)))))) → Option ((List (List Int)) × Int)) : Option ((List (List Int)) × Int) :=
  (cond (decide (s.2.2.2.2.2.1 < s.2.2.2.2.1))
    (iterK (r_impl_response_L2 c_impl_LaplacianOf c_impl_inner c_impl_det N) N (s.1, (s.2.1, (s.2.2.1, (s.2.2.2.1, (s.2.2.2.2.2.1, (s.2.2.2.2.1, (s.2.2.2.2.2.1, ((((List.length s.2.2.2.1) : Nat) : Int), ((0 : Int), ()))))))))) fun (s1 : ((Int × (Int × (Int × (List (Int × (Int × Int)))))) × ((List (List Int)) × ((List Int) × ((List (List Int)) × (Int × (Int × (Int × (Int × (Int × Unit)))))))))) =>
    (kc (s1.1, (s1.2.1, (s1.2.2.1, (s1.2.2.2.1, (s1.2.2.2.2.2.1, ((wr (s1.2.2.2.2.2.2.1 + (1 : Int))), ()))))))))
    (ke (s.1, (s.2.1, (s.2.2.1, (s.2.2.2.1, (s.2.2.2.2.1, (s.2.2.2.2.2.1, ()))))))))
def r_impl_response (c_impl_LaplacianOf : ((Int × Int × Int × List (Int × Int × Int)) × Unit → Option (List (List Int)))) (c_impl_inner : ((Int × Int × Int × List (Int × Int × Int)) × Unit → Option (List Int))) (c_impl_det : ((List (List Int)) × (List Int) × (List Int) × Unit → Option Int)) (N : Nat) (a0 : (Int × (Int × (Int × (List (Int × (Int × Int))))))) : Option ((List (List Int)) × Int) :=
  (Option.bind (c_impl_LaplacianOf (a0, ())) fun (x1 : (List (List Int))) =>
  (Option.bind (c_impl_inner (a0, ())) fun (x2 : (List Int)) =>
  (cond (decide ((0 : Int) ≤ a0.2.1))
    (cond (Nat.ble (Int.toNat a0.2.1) 17179869184)
      (iterK (r_impl_response_L0 c_impl_LaplacianOf c_impl_inner c_impl_det N) N (a0, (x1, (x2, ((List.replicate (Int.toNat a0.2.1) ([] : List Int)), ((((List.length (List.replicate (Int.toNat a0.2.1) ([] : List Int))) : Nat) : Int), ((0 : Int), ())))))) fun (s3 : ((Int × (Int × (Int × (List (Int × (Int × Int)))))) × ((List (List Int)) × ((List Int) × ((List (List Int)) × (Int × (Int × Unit))))))) =>
      (Option.bind (c_impl_det (s3.2.1, (s3.2.2.1, (s3.2.2.1, ())))) fun (x4 : Int) =>
      (some (s3.2.2.2.1, (wr (s3.1.2.2.1 * x4))))))
      none)
    none)))

noncomputable def e_impl_response (a : (Int × Int × Int × List (Int × Int × Int)) × Unit) : Option ((List (List Int)) × Int) := r_impl_response e_impl_LaplacianOf e_impl_inner e_impl_det N0 a.1
def r_impl_RatioOf (c_impl_size : (Int × Unit → Option Int)) (c_impl_common : (Int × Int × Unit → Option Int)) (_N : Nat) (a0 : Int) (a1 : Int) : Option (Int × Int) :=
  (cond (decide (a1 = (0 : Int)))
    (some ((0 : Int), (0 : Int)))
    (Option.bind (c_impl_size (a0, ())) fun (x1 : Int) =>
    (Option.bind (c_impl_size (a1, ())) fun (x2 : Int) =>
    (Option.bind (c_impl_common (x1, (x2, ()))) fun (x3 : Int) =>
    (Option.bind (c_impl_size (a0, ())) fun (x4 : Int) =>
    (cond (decide (x3 = (0 : Int)))
      none
      (Option.bind (c_impl_size (a1, ())) fun (x5 : Int) =>
      (cond (decide (x3 = (0 : Int)))
        none
        (cond (decide ((Go.IntKind.wrap @Go.IntKind.u64 (Int.tdiv x4 x3)) > (1000000000000000000 : Int)))
          (some ((0 : Int), (0 : Int)))
          (cond (decide ((Go.IntKind.wrap @Go.IntKind.u64 (Int.tdiv x5 x3)) > (1000000000000000 : Int)))
            (some ((0 : Int), (0 : Int)))
            (cond (!(beqB (decide (a0 < (0 : Int))) (decide (a1 < (0 : Int)))))
              (some ((wr ((0 : Int) - (wr (Go.IntKind.wrap @Go.IntKind.u64 (Int.tdiv x4 x3))))), (wr (Go.IntKind.wrap @Go.IntKind.u64 (Int.tdiv x5 x3)))))
              (some ((wr (Go.IntKind.wrap @Go.IntKind.u64 (Int.tdiv x4 x3))), (wr (Go.IntKind.wrap @Go.IntKind.u64 (Int.tdiv x5 x3))))))))))))))))

noncomputable def e_impl_RatioOf (a : Int × Int × Unit) : Option (Int × Int) := r_impl_RatioOf e_impl_size e_impl_common N0 a.1 a.2.1
def r_impl_ResponseOf_L2 (_c_impl_NetOk : ((Int × Int × Int × List (Int × Int × Int)) × Unit → Option Bool)) (_c_impl_response : ((Int × Int × Int × List (Int × Int × Int)) × Unit → Option ((List (List Int)) × Int))) (c_impl_RatioOf : (Int × Int × Unit → Option (Int × Int))) (_N : Nat) (s : ((List (List Int)) × (Int × ((List (List (Int × Int))) × (Int × (Int × (Int × ((List Int) × (Int × (Int × Unit)))))))))) (kc ke : ((List (List Int)) × (Int × ((List (List (Int × Int))) × (Int × (Int × (Int × ((List Int) × (Int × (Int × Unit))))))))) → Option ((List (List (Int × Int))) × Bool)) : Option ((List (List (Int × Int))) × Bool) :=
  (cond (decide (s.2.2.2.2.2.2.2.2.1 < s.2.2.2.2.2.2.2.1))
    (Option.bind (getI s.2.2.2.2.2.2.1 s.2.2.2.2.2.2.2.2.1) fun (x1 : Int) =>
    (Option.bind (getI s.2.2.1 s.2.2.2.1) fun (x2 : (List (Int × Int))) =>
    (Option.bind (c_impl_RatioOf (x1, (s.2.1, ()))) fun (x3 : (Int × Int)) =>
    (cond (Nat.ble ((List.length x2) + (List.length (x3 :: ([] : List (Int × Int))))) 17179869184)
      (Option.bind (getI s.2.2.1 s.2.2.2.1) fun (_x4 : (List (Int × Int))) =>
      (cond (@Go.Sx.samePath (([] : List PS) ++ ((@Go.Sx.PS.idx (Int.toNat s.2.2.2.1)) :: ([] : List PS))) (([] : List PS) ++ ((@Go.Sx.PS.idx (Int.toNat s.2.2.2.1)) :: ([] : List PS))))
        (kc (s.1, (s.2.1, ((List.set s.2.2.1 (Int.toNat s.2.2.2.1) (x2 ++ (x3 :: ([] : List (Int × Int))))), (s.2.2.2.1, (s.2.2.2.2.1, (s.2.2.2.2.2.1, (s.2.2.2.2.2.2.1, (s.2.2.2.2.2.2.2.1, ((wr (s.2.2.2.2.2.2.2.2.1 + (1 : Int))), ()))))))))))
        none))
      none))))
    (ke (s.1, (s.2.1, (s.2.2.1, (s.2.2.2.1, (s.2.2.2.2.1, (s.2.2.2.2.2.1, (s.2.2.2.2.2.2.1, (s.2.2.2.2.2.2.2.1, (s.2.2.2.2.2.2.2.2.1, ())))))))))))
def r_impl_ResponseOf_L0 (c_impl_NetOk : ((Int × Int × Int × List (Int × Int × Int)) × Unit → Option Bool)) (c_impl_response : ((Int × Int × Int × List (Int × Int × Int)) × Unit → Option ((List (List Int)) × Int))) (c_impl_RatioOf : (Int × Int × Unit → Option (Int × Int))) (N : Nat) (s : ((List (List Int)) × (Int × ((List (List (Int × Int))) × (Int × (Int × Unit)))))) (kc ke : ((List (List Int)) × (Int × ((List (List (Int × Int))) × (Int × (Int × Unit))))) → Option ((List (List (Int × Int))) × Bool)) : Option ((List (List (Int × Int))) × Bool) :=
  (cond (decide (s.2.2.2.2.1 < s.2.2.2.1))
    (Option.bind (getI s.1 s.2.2.2.2.1) fun (x1 : (List Int)) =>
    (iterK (r_impl_ResponseOf_L2 c_impl_NetOk c_impl_response c_impl_RatioOf N) N (s.1, (s.2.1, (s.2.2.1, (s.2.2.2.2.1, (s.2.2.2.1, (s.2.2.2.2.1, (x1, ((((List.length x1) : Nat) : Int), ((0 : Int), ()))))))))) fun (s2 : ((List (List Int)) × (Int × ((List (List (Int × Int))) × (Int × (Int × (Int × ((List Int) × (Int × (Int × Unit)))))))))) =>
    (kc (s2.1, (s2.2.1, (s2.2.2.1, (s2.2.2.2.2.1, ((wr (s2.2.2.2.2.2.1 + (1 : Int))), ()))))))))
    (ke (s.1, (s.2.1, (s.2.2.1, (s.2.2.2.1, (s.2.2.2.2.1, ())))))))
def r_impl_ResponseOf (c_impl_NetOk : ((Int × Int × Int × List (Int × Int × Int)) × Unit → Option Bool)) (c_impl_response : ((Int × Int × Int × List (Int × Int × Int)) × Unit → Option ((List (List Int)) × Int))) (c_impl_RatioOf : (Int × Int × Unit → Option (Int × Int))) (N : Nat) (a0 : (Int × (Int × (Int × (List (Int × (Int × Int))))))) : Option ((List (List (Int × Int))) × Bool) :=
  (Option.bind (c_impl_NetOk (a0, ())) fun (x1 : Bool) =>
  (cond (!x1)
    (some (([] : List (List (Int × Int))), false))
    (Option.bind (c_impl_response (a0, ())) fun (x2 : ((List (List Int)) × Int)) =>
    (cond (Nat.ble (Int.toNat (((List.length x2.1) : Nat) : Int)) 17179869184)
      (iterK (r_impl_ResponseOf_L0 c_impl_NetOk c_impl_response c_impl_RatioOf N) N (x2.1, (x2.2, ((List.replicate (Int.toNat (((List.length x2.1) : Nat) : Int)) ([] : List (Int × Int))), ((((List.length x2.1) : Nat) : Int), ((0 : Int), ()))))) fun (s3 : ((List (List Int)) × (Int × ((List (List (Int × Int))) × (Int × (Int × Unit)))))) =>
      (some (s3.2.2.1, true)))
      none))))

noncomputable def e_impl_ResponseOf (a : (Int × Int × Int × List (Int × Int × Int)) × Unit) : Option ((List (List (Int × Int))) × Bool) := r_impl_ResponseOf e_impl_NetOk e_impl_response e_impl_RatioOf N0 a.1
def r_slices_Equal_impl_Ratio_L0 (_N : Nat) (s : ((List (Int × Int)) × ((List (Int × Int)) × (Int × (Int × Unit))))) (kc ke : ((List (Int × Int)) × ((List (Int × Int)) × (Int × (Int × Unit)))) → Option Bool) : Option Bool :=
  (cond (decide (s.2.2.2.1 < s.2.2.1))
    (Option.bind (getI s.1 s.2.2.2.1) fun (x1 : (Int × Int)) =>
    (Option.bind (getI s.2.1 s.2.2.2.1) fun (x2 : (Int × Int)) =>
    (cond (!((intEq x1.1 x2.1) && (intEq x1.2 x2.2)))
      (some false)
      (kc (s.1, (s.2.1, (s.2.2.1, ((wr (s.2.2.2.1 + (1 : Int))), ()))))))))
    (ke (s.1, (s.2.1, (s.2.2.1, (s.2.2.2.1, ()))))))
def r_slices_Equal_impl_Ratio (N : Nat) (a0 : (List (Int × Int))) (a1 : (List (Int × Int))) : Option Bool :=
  (cond (!(decide ((((List.length a0) : Nat) : Int) = (((List.length a1) : Nat) : Int))))
    (some false)
    (iterK (r_slices_Equal_impl_Ratio_L0 N) N (a0, (a1, ((((List.length a0) : Nat) : Int), ((0 : Int), ())))) fun (_s1 : ((List (Int × Int)) × ((List (Int × Int)) × (Int × (Int × Unit))))) =>
    (some true)))

noncomputable def e_slices_Equal_impl_Ratio (a : (List (Int × Int)) × (List (Int × Int)) × Unit) : Option Bool := r_slices_Equal_impl_Ratio N0 a.1 a.2.1
def r_impl_SameResponse_1 (c_slices_Equal_impl_Ratio : ((List (Int × Int)) × (List (Int × Int)) × Unit → Option Bool)) (_N : Nat) (a0 : (List (Int × Int))) (a1 : (List (Int × Int))) : Option Bool :=
  (Option.bind (c_slices_Equal_impl_Ratio (a0, (a1, ()))) fun (x1 : Bool) =>
  (some x1))

noncomputable def e_impl_SameResponse_1 (a : (List (Int × Int)) × (List (Int × Int)) × Unit) : Option Bool := r_impl_SameResponse_1 e_slices_Equal_impl_Ratio N0 a.1 a.2.1
def r_slices_EqualFunc_Simpl_Ratio_L0 (c_impl_SameResponse_1 : ((List (Int × Int)) × (List (Int × Int)) × Unit → Option Bool)) (_N : Nat) (s : ((List (List (Int × Int))) × (Unit × ((List (List (Int × Int))) × (Int × (Int × Unit)))))) (kc ke : ((List (List (Int × Int))) × (Unit × ((List (List (Int × Int))) × (Int × (Int × Unit))))) → Option Bool) : Option Bool :=
  (cond (decide (s.2.2.2.2.1 < s.2.2.2.1))
    (Option.bind (getI s.2.2.1 s.2.2.2.2.1) fun (x1 : (List (Int × Int))) =>
    (Option.bind (getI s.1 s.2.2.2.2.1) fun (x2 : (List (Int × Int))) =>
    (Option.bind (c_impl_SameResponse_1 (x1, (x2, ()))) fun (x3 : Bool) =>
    (cond (!x3)
      (some false)
      (kc (s.1, (s.2.1, (s.2.2.1, (s.2.2.2.1, ((wr (s.2.2.2.2.1 + (1 : Int))), ()))))))))))
    (ke (s.1, (s.2.1, (s.2.2.1, (s.2.2.2.1, (s.2.2.2.2.1, ())))))))
def r_slices_EqualFunc_Simpl_Ratio (c_impl_SameResponse_1 : ((List (Int × Int)) × (List (Int × Int)) × Unit → Option Bool)) (N : Nat) (a0 : (List (List (Int × Int)))) (a1 : (List (List (Int × Int)))) (a2 : Unit) : Option Bool :=
  (cond (!(decide ((((List.length a0) : Nat) : Int) = (((List.length a1) : Nat) : Int))))
    (some false)
    (iterK (r_slices_EqualFunc_Simpl_Ratio_L0 c_impl_SameResponse_1 N) N (a1, (a2, (a0, ((((List.length a0) : Nat) : Int), ((0 : Int), ()))))) fun (_s1 : ((List (List (Int × Int))) × (Unit × ((List (List (Int × Int))) × (Int × (Int × Unit)))))) =>
    (some true)))

noncomputable def e_slices_EqualFunc_Simpl_Ratio (a : (List (List (Int × Int))) × (List (List (Int × Int))) × Unit × Unit) : Option Bool := r_slices_EqualFunc_Simpl_Ratio e_impl_SameResponse_1 N0 a.1 a.2.1 a.2.2.1
def r_impl_SameResponse (c_slices_EqualFunc_Simpl_Ratio : ((List (List (Int × Int))) × (List (List (Int × Int))) × Unit × Unit → Option Bool)) (_N : Nat) (a0 : (List (List (Int × Int)))) (a1 : (List (List (Int × Int)))) : Option Bool :=
  (Option.bind (c_slices_EqualFunc_Simpl_Ratio (a0, (a1, ((), ())))) fun (x1 : Bool) =>
  (some x1))

noncomputable def e_impl_SameResponse (a : (List (List (Int × Int))) × (List (List (Int × Int))) × Unit) : Option Bool := r_impl_SameResponse e_slices_EqualFunc_Simpl_Ratio N0 a.1 a.2.1
def r_impl_AreAlike (c_impl_ResponseOf : ((Int × Int × Int × List (Int × Int × Int)) × Unit → Option ((List (List (Int × Int))) × Bool))) (c_impl_SameResponse : ((List (List (Int × Int))) × (List (List (Int × Int))) × Unit → Option Bool)) (_N : Nat) (a0 : (Int × (Int × (Int × (List (Int × (Int × Int))))))) (a1 : (Int × (Int × (Int × (List (Int × (Int × Int))))))) : Option Bool :=
  (Option.bind (c_impl_ResponseOf (a0, ())) fun (x1 : ((List (List (Int × Int))) × Bool)) =>
  (Option.bind (c_impl_ResponseOf (a1, ())) fun (x2 : ((List (List (Int × Int))) × Bool)) =>
  (cond x1.2
    (cond x2.2
      (Option.bind (c_impl_SameResponse (x1.1, (x2.1, ()))) fun (x3 : Bool) =>
      (some x3))
      (some false))
    (some false))))

noncomputable def e_impl_AreAlike (a : (Int × Int × Int × List (Int × Int × Int)) × (Int × Int × Int × List (Int × Int × Int)) × Unit) : Option Bool := r_impl_AreAlike e_impl_ResponseOf e_impl_SameResponse N0 a.1 a.2.1
def r_slices_Equal_impl_Wire_L0 (_N : Nat) (s : ((List (Int × (Int × Int))) × ((List (Int × (Int × Int))) × (Int × (Int × Unit))))) (kc ke : ((List (Int × (Int × Int))) × ((List (Int × (Int × Int))) × (Int × (Int × Unit)))) → Option Bool) : Option Bool :=
  (cond (decide (s.2.2.2.1 < s.2.2.1))
    (Option.bind (getI s.1 s.2.2.2.1) fun (x1 : (Int × (Int × Int))) =>
    (Option.bind (getI s.2.1 s.2.2.2.1) fun (x2 : (Int × (Int × Int))) =>
    (cond (!((intEq x1.1 x2.1) && ((intEq x1.2.1 x2.2.1) && (intEq x1.2.2 x2.2.2))))
      (some false)
      (kc (s.1, (s.2.1, (s.2.2.1, ((wr (s.2.2.2.1 + (1 : Int))), ()))))))))
    (ke (s.1, (s.2.1, (s.2.2.1, (s.2.2.2.1, ()))))))
def r_slices_Equal_impl_Wire (N : Nat) (a0 : (List (Int × (Int × Int)))) (a1 : (List (Int × (Int × Int)))) : Option Bool :=
  (cond (!(decide ((((List.length a0) : Nat) : Int) = (((List.length a1) : Nat) : Int))))
    (some false)
    (iterK (r_slices_Equal_impl_Wire_L0 N) N (a0, (a1, ((((List.length a0) : Nat) : Int), ((0 : Int), ())))) fun (_s1 : ((List (Int × (Int × Int))) × ((List (Int × (Int × Int))) × (Int × (Int × Unit))))) =>
    (some true)))

noncomputable def e_slices_Equal_impl_Wire (a : (List (Int × Int × Int)) × (List (Int × Int × Int)) × Unit) : Option Bool := r_slices_Equal_impl_Wire N0 a.1 a.2.1
def r_impl_SameNet (c_slices_Equal_impl_Wire : ((List (Int × Int × Int)) × (List (Int × Int × Int)) × Unit → Option Bool)) (_N : Nat) (a0 : (Int × (Int × (Int × (List (Int × (Int × Int))))))) (a1 : (Int × (Int × (Int × (List (Int × (Int × Int))))))) : Option Bool :=
  (cond (decide (a0.1 = a1.1))
    (cond (decide (a0.2.1 = a1.2.1))
      (cond (decide (a0.2.2.1 = a1.2.2.1))
        (Option.bind (c_slices_Equal_impl_Wire (a0.2.2.2, (a1.2.2.2, ()))) fun (x1 : Bool) =>
        (some x1))
        (some false))
      (some false))
    (some false))

noncomputable def e_impl_SameNet (a : (Int × Int × Int × List (Int × Int × Int)) × (Int × Int × Int × List (Int × Int × Int)) × Unit) : Option Bool := r_impl_SameNet e_slices_Equal_impl_Wire N0 a.1 a.2.1
def r_laws_FnTriangles (c_spec_MakeTriangle : (Value × Unit → Option ((Int × Int × Int × List (Int × Int × Int)) × (Int × (Int × Int))))) (c_spec_TriangleStar : ((Int × Int × Int × List (Int × Int × Int)) × Int × Int × Int × Unit → Option ((Int × Int × Int × List (Int × Int × Int)) × Bool))) (c_impl_TriangleStar : ((Int × Int × Int × List (Int × Int × Int)) × Int × Int × Int × Unit → Option ((Int × Int × Int × List (Int × Int × Int)) × Bool))) (c_impl_NetOk : ((Int × Int × Int × List (Int × Int × Int)) × Unit → Option Bool)) (c_impl_StarMesh : ((Int × Int × Int × List (Int × Int × Int)) × Int × Unit → Option ((Int × Int × Int × List (Int × Int × Int)) × Bool))) (c_impl_CanonNet : ((Int × Int × Int × List (Int × Int × Int)) × Unit → Option ((Int × Int × Int × List (Int × Int × Int)) × Bool))) (c_impl_AreAlike : ((Int × Int × Int × List (Int × Int × Int)) × (Int × Int × Int × List (Int × Int × Int)) × Unit → Option Bool)) (c_impl_SameNet : ((Int × Int × Int × List (Int × Int × Int)) × (Int × Int × Int × List (Int × Int × Int)) × Unit → Option Bool)) (_N : Nat) (a0 : Value) : Option Bool :=
  (Option.bind (rawLen a0) fun (x1 : Int) =>
  (cond (decide (x1 > (1048576 : Int)))
    (some true)
    (Option.bind (c_spec_MakeTriangle (a0, ())) fun (x2 : ((Int × (Int × (Int × (List (Int × (Int × Int)))))) × (Int × (Int × Int)))) =>
    (Option.bind (c_spec_TriangleStar (x2.1, (x2.2.1, (x2.2.2.1, (x2.2.2.2, ()))))) fun (x3 : ((Int × (Int × (Int × (List (Int × (Int × Int)))))) × Bool)) =>
    (Option.bind (c_impl_TriangleStar (x2.1, (x2.2.1, (x2.2.2.1, (x2.2.2.2, ()))))) fun (x4 : ((Int × (Int × (Int × (List (Int × (Int × Int)))))) × Bool)) =>
    (cond (!(beqB x4.2 x3.2))
      (some false)
      (Option.bind (c_impl_NetOk (x2.1, ())) fun (x5 : Bool) =>
      (cond (!x5)
        (some false)
        (cond (!x4.2)
          (some (decide (x4.1.1 = (0 : Int))))
          (Option.bind (c_impl_StarMesh (x4.1, ((wr (x4.1.1 - (1 : Int))), ()))) fun (x6 : ((Int × (Int × (Int × (List (Int × (Int × Int)))))) × Bool)) =>
          (Option.bind (c_impl_CanonNet (x2.1, ())) fun (x7 : ((Int × (Int × (Int × (List (Int × (Int × Int)))))) × Bool)) =>
          (cond (decide (x4.1.1 = (wr (x2.1.1 + (1 : Int)))))
            (Option.bind (c_impl_AreAlike (x2.1, (x4.1, ()))) fun (x8 : Bool) =>
            (cond x8
              (cond x6.2
                (cond x7.2
                  (Option.bind (c_impl_SameNet (x6.1, (x7.1, ()))) fun (x9 : Bool) =>
                  (some x9))
                  (some false))
                (some false))
              (some false)))
            (some false)))))))))))))

noncomputable def e_laws_FnTriangles (A : Option (Nat × Obj)) (a : Value × Unit) : Option Bool := r_laws_FnTriangles (e_spec_MakeTriangle A) e_spec_TriangleStar e_impl_TriangleStar e_impl_NetOk e_impl_StarMesh e_impl_CanonNet e_impl_AreAlike e_impl_SameNet N0 a.1
end Go.Sx.R
