/-
  Plain law: the tables of the grammar.
-/
import Derived.Test.YtheckaonphmmiaaSkO
set_option linter.unusedVariables false
set_option linter.unusedSimpArgs false
namespace Go.SK
/-! grammar: what the tables say -/
abbrev Byts := List UInt8
def firstT : List (Int × Byts) := [(1, [79, 112, 85, 110, 100, 101, 102, 32, 84, 82, 32, 32, 32, 32, 55]),
  (3, [79, 112, 83, 111, 117, 114, 99, 101, 32, 32, 108, 110, 32, 32, 32, 52]),
  (5, [79, 112, 78, 97, 109, 101, 32, 32, 105, 115, 32, 32, 32, 53]),
  (6, [79, 112, 77, 101, 109, 98, 101, 114, 78, 97, 109, 101, 32, 32, 105, 110, 115, 32, 32, 32, 53]),
  (7, [79, 112, 83, 116, 114, 105, 110, 103, 32, 82, 32, 115, 32, 32, 32, 52]),
  (14, [79, 112, 77, 101, 109, 111, 114, 121, 77, 111, 100, 101, 108, 32, 32, 97, 109, 32, 32, 32, 49]),
  (15, [79, 112, 69, 110, 116, 114, 121, 80, 111, 105, 110, 116, 32, 32, 101, 105, 115, 32, 105, 32, 32, 50]),
  (16, [79, 112, 69, 120, 101, 99, 117, 116, 105, 111, 110, 77, 111, 100, 101, 32, 32, 105, 120, 32, 32, 32, 51]),
  (17, [79, 112, 67, 97, 112, 97, 98, 105, 108, 105, 116, 121, 32, 32, 107, 32, 32, 32, 48]),
  (19, [79, 112, 84, 121, 112, 101, 86, 111, 105, 100, 32, 82, 32, 32, 32, 32, 55]),
  (20, [79, 112, 84, 121, 112, 101, 66, 111, 111, 108, 32, 82, 32, 32, 32, 32, 55]),
  (21, [79, 112, 84, 121, 112, 101, 73, 110, 116, 32, 82, 32, 110, 110, 32, 32, 32, 55]),
  (23, [79, 112, 84, 121, 112, 101, 86, 101, 99, 116, 111, 114, 32, 82, 32, 105, 110, 32, 32, 32, 55]),
  (28, [79, 112, 84, 121, 112, 101, 65, 114, 114, 97, 121, 32, 82, 32, 105, 105, 32, 32, 32, 55]),
  (30, [79, 112, 84, 121, 112, 101, 83, 116, 114, 117, 99, 116, 32, 82, 32, 32, 105, 32, 32, 55]),
  (32, [79, 112, 84, 121, 112, 101, 80, 111, 105, 110, 116, 101, 114, 32, 82, 32, 99, 105, 32, 32, 32, 55]),
  (33, [79, 112, 84, 121, 112, 101, 70, 117, 110, 99, 116, 105, 111, 110, 32, 82, 32, 105, 32, 105, 32, 32, 55]),
  (41, [79, 112, 67, 111, 110, 115, 116, 97, 110, 116, 84, 114, 117, 101, 32, 84, 82, 32, 32, 32, 32, 55]),
  (42, [79, 112, 67, 111, 110, 115, 116, 97, 110, 116, 70, 97, 108, 115, 101, 32, 84, 82, 32, 32, 32, 32, 55]),
  (43, [79, 112, 67, 111, 110, 115, 116, 97, 110, 116, 32, 84, 82, 32, 110, 32, 32, 32, 55]),
  (44, [79, 112, 67, 111, 110, 115, 116, 97, 110, 116, 67, 111, 109, 112, 111, 115, 105, 116, 101, 32, 84, 82, 32, 32, 105, 32, 32, 55]),
  (46, [79, 112, 67, 111, 110, 115, 116, 97, 110, 116, 78, 117, 108, 108, 32, 84, 82, 32, 32, 32, 32, 55]),
  (54, [79, 112, 70, 117, 110, 99, 116, 105, 111, 110, 32, 84, 82, 32, 102, 105, 32, 32, 32, 56]),
  (55, [79, 112, 70, 117, 110, 99, 116, 105, 111, 110, 80, 97, 114, 97, 109, 101, 116, 101, 114, 32, 84, 82, 32, 32, 32, 32, 56]),
  (56, [79, 112, 70, 117, 110, 99, 116, 105, 111, 110, 69, 110, 100, 32, 32, 32, 32, 32, 56]),
  (57, [79, 112, 70, 117, 110, 99, 116, 105, 111, 110, 67, 97, 108, 108, 32, 84, 82, 32, 105, 32, 105, 32, 32, 56]),
  (59, [79, 112, 86, 97, 114, 105, 97, 98, 108, 101, 32, 84, 82, 32, 99, 32, 105, 32, 49, 32, 55]),
  (61, [79, 112, 76, 111, 97, 100, 32, 84, 82, 32, 105, 32, 32, 32, 56]),
  (62, [79, 112, 83, 116, 111, 114, 101, 32, 32, 105, 105, 32, 32, 32, 56]),
  (65, [79, 112, 65, 99, 99, 101, 115, 115, 67, 104, 97, 105, 110, 32, 84, 82, 32, 105, 32, 105, 32, 32, 56]),
  (71, [79, 112, 68, 101, 99, 111, 114, 97, 116, 101, 32, 32, 105, 100, 32, 110, 32, 32, 54])]
def secondT : List (Int × Byts) := [(77, [79, 112, 86, 101, 99, 116, 111, 114, 69, 120, 116, 114, 97, 99, 116, 68, 121, 110, 97, 109, 105, 99, 32, 84, 82, 32, 105, 105, 32, 32, 32, 56]),
  (78, [79, 112, 86, 101, 99, 116, 111, 114, 73, 110, 115, 101, 114, 116, 68, 121, 110, 97, 109, 105, 99, 32, 84, 82, 32, 105, 105, 105, 32, 32, 32, 56]),
  (79, [79, 112, 86, 101, 99, 116, 111, 114, 83, 104, 117, 102, 102, 108, 101, 32, 84, 82, 32, 105, 105, 32, 110, 32, 32, 56]),
  (80, [79, 112, 67, 111, 109, 112, 111, 115, 105, 116, 101, 67, 111, 110, 115, 116, 114, 117, 99, 116, 32, 84, 82, 32, 32, 105, 32, 32, 56]),
  (81, [79, 112, 67, 111, 109, 112, 111, 115, 105, 116, 101, 69, 120, 116, 114, 97, 99, 116, 32, 84, 82, 32, 105, 32, 110, 32, 32, 56]),
  (82, [79, 112, 67, 111, 109, 112, 111, 115, 105, 116, 101, 73, 110, 115, 101, 114, 116, 32, 84, 82, 32, 105, 105, 32, 110, 32, 32, 56]),
  (83, [79, 112, 67, 111, 112, 121, 79, 98, 106, 101, 99, 116, 32, 84, 82, 32, 105, 32, 32, 32, 56]),
  (124, [79, 112, 66, 105, 116, 99, 97, 115, 116, 32, 84, 82, 32, 105, 32, 32, 32, 56]),
  (126, [79, 112, 83, 78, 101, 103, 97, 116, 101, 32, 84, 82, 32, 105, 32, 32, 32, 56]),
  (128, [79, 112, 73, 65, 100, 100, 32, 84, 82, 32, 105, 105, 32, 32, 32, 56]),
  (130, [79, 112, 73, 83, 117, 98, 32, 84, 82, 32, 105, 105, 32, 32, 32, 56]),
  (132, [79, 112, 73, 77, 117, 108, 32, 84, 82, 32, 105, 105, 32, 32, 32, 56]),
  (134, [79, 112, 85, 68, 105, 118, 32, 84, 82, 32, 105, 105, 32, 32, 32, 56]),
  (135, [79, 112, 83, 68, 105, 118, 32, 84, 82, 32, 105, 105, 32, 32, 32, 56]),
  (137, [79, 112, 85, 77, 111, 100, 32, 84, 82, 32, 105, 105, 32, 32, 32, 56]),
  (138, [79, 112, 83, 82, 101, 109, 32, 84, 82, 32, 105, 105, 32, 32, 32, 56]),
  (139, [79, 112, 83, 77, 111, 100, 32, 84, 82, 32, 105, 105, 32, 32, 32, 56]),
  (149, [79, 112, 73, 65, 100, 100, 67, 97, 114, 114, 121, 32, 84, 82, 32, 105, 105, 32, 32, 32, 56]),
  (150, [79, 112, 73, 83, 117, 98, 66, 111, 114, 114, 111, 119, 32, 84, 82, 32, 105, 105, 32, 32, 32, 56]),
  (151, [79, 112, 85, 77, 117, 108, 69, 120, 116, 101, 110, 100, 101, 100, 32, 84, 82, 32, 105, 105, 32, 32, 32, 56]),
  (152, [79, 112, 83, 77, 117, 108, 69, 120, 116, 101, 110, 100, 101, 100, 32, 84, 82, 32, 105, 105, 32, 32, 32, 56]),
  (154, [79, 112, 65, 110, 121, 32, 84, 82, 32, 105, 32, 32, 32, 56]),
  (155, [79, 112, 65, 108, 108, 32, 84, 82, 32, 105, 32, 32, 32, 56]),
  (164, [79, 112, 76, 111, 103, 105, 99, 97, 108, 69, 113, 117, 97, 108, 32, 84, 82, 32, 105, 105, 32, 32, 32, 56]),
  (165, [79, 112, 76, 111, 103, 105, 99, 97, 108, 78, 111, 116, 69, 113, 117, 97, 108, 32, 84, 82, 32, 105, 105, 32, 32, 32, 56]),
  (166, [79, 112, 76, 111, 103, 105, 99, 97, 108, 79, 114, 32, 84, 82, 32, 105, 105, 32, 32, 32, 56]),
  (167, [79, 112, 76, 111, 103, 105, 99, 97, 108, 65, 110, 100, 32, 84, 82, 32, 105, 105, 32, 32, 32, 56]),
  (168, [79, 112, 76, 111, 103, 105, 99, 97, 108, 78, 111, 116, 32, 84, 82, 32, 105, 32, 32, 32, 56]),
  (169, [79, 112, 83, 101, 108, 101, 99, 116, 32, 84, 82, 32, 105, 105, 105, 32, 32, 32, 56]),
  (170, [79, 112, 73, 69, 113, 117, 97, 108, 32, 84, 82, 32, 105, 105, 32, 32, 32, 56]),
  (171, [79, 112, 73, 78, 111, 116, 69, 113, 117, 97, 108, 32, 84, 82, 32, 105, 105, 32, 32, 32, 56])]
def thirdT : List (Int × Byts) := [(172, [79, 112, 85, 71, 114, 101, 97, 116, 101, 114, 84, 104, 97, 110, 32, 84, 82, 32, 105, 105, 32, 32, 32, 56]),
  (173, [79, 112, 83, 71, 114, 101, 97, 116, 101, 114, 84, 104, 97, 110, 32, 84, 82, 32, 105, 105, 32, 32, 32, 56]),
  (174, [79, 112, 85, 71, 114, 101, 97, 116, 101, 114, 84, 104, 97, 110, 69, 113, 117, 97, 108, 32, 84, 82, 32, 105, 105, 32, 32, 32, 56]),
  (175, [79, 112, 83, 71, 114, 101, 97, 116, 101, 114, 84, 104, 97, 110, 69, 113, 117, 97, 108, 32, 84, 82, 32, 105, 105, 32, 32, 32, 56]),
  (176, [79, 112, 85, 76, 101, 115, 115, 84, 104, 97, 110, 32, 84, 82, 32, 105, 105, 32, 32, 32, 56]),
  (177, [79, 112, 83, 76, 101, 115, 115, 84, 104, 97, 110, 32, 84, 82, 32, 105, 105, 32, 32, 32, 56]),
  (178, [79, 112, 85, 76, 101, 115, 115, 84, 104, 97, 110, 69, 113, 117, 97, 108, 32, 84, 82, 32, 105, 105, 32, 32, 32, 56]),
  (179, [79, 112, 83, 76, 101, 115, 115, 84, 104, 97, 110, 69, 113, 117, 97, 108, 32, 84, 82, 32, 105, 105, 32, 32, 32, 56]),
  (194, [79, 112, 83, 104, 105, 102, 116, 82, 105, 103, 104, 116, 76, 111, 103, 105, 99, 97, 108, 32, 84, 82, 32, 105, 105, 32, 32, 32, 56]),
  (195, [79, 112, 83, 104, 105, 102, 116, 82, 105, 103, 104, 116, 65, 114, 105, 116, 104, 109, 101, 116, 105, 99, 32, 84, 82, 32, 105, 105, 32, 32, 32, 56]),
  (196, [79, 112, 83, 104, 105, 102, 116, 76, 101, 102, 116, 76, 111, 103, 105, 99, 97, 108, 32, 84, 82, 32, 105, 105, 32, 32, 32, 56]),
  (197, [79, 112, 66, 105, 116, 119, 105, 115, 101, 79, 114, 32, 84, 82, 32, 105, 105, 32, 32, 32, 56]),
  (198, [79, 112, 66, 105, 116, 119, 105, 115, 101, 88, 111, 114, 32, 84, 82, 32, 105, 105, 32, 32, 32, 56]),
  (199, [79, 112, 66, 105, 116, 119, 105, 115, 101, 65, 110, 100, 32, 84, 82, 32, 105, 105, 32, 32, 32, 56]),
  (200, [79, 112, 78, 111, 116, 32, 84, 82, 32, 105, 32, 32, 32, 56]),
  (201, [79, 112, 66, 105, 116, 70, 105, 101, 108, 100, 73, 110, 115, 101, 114, 116, 32, 84, 82, 32, 105, 105, 105, 105, 32, 32, 32, 56]),
  (202, [79, 112, 66, 105, 116, 70, 105, 101, 108, 100, 83, 69, 120, 116, 114, 97, 99, 116, 32, 84, 82, 32, 105, 105, 105, 32, 32, 32, 56]),
  (203, [79, 112, 66, 105, 116, 70, 105, 101, 108, 100, 85, 69, 120, 116, 114, 97, 99, 116, 32, 84, 82, 32, 105, 105, 105, 32, 32, 32, 56]),
  (204, [79, 112, 66, 105, 116, 82, 101, 118, 101, 114, 115, 101, 32, 84, 82, 32, 105, 32, 32, 32, 56]),
  (205, [79, 112, 66, 105, 116, 67, 111, 117, 110, 116, 32, 84, 82, 32, 105, 32, 32, 32, 56]),
  (245, [79, 112, 80, 104, 105, 32, 84, 82, 32, 32, 105, 105, 32, 32, 56]),
  (246, [79, 112, 76, 111, 111, 112, 77, 101, 114, 103, 101, 32, 32, 105, 105, 103, 32, 32, 32, 56]),
  (247, [79, 112, 83, 101, 108, 101, 99, 116, 105, 111, 110, 77, 101, 114, 103, 101, 32, 32, 105, 104, 32, 32, 32, 56]),
  (248, [79, 112, 76, 97, 98, 101, 108, 32, 82, 32, 32, 32, 32, 56]),
  (249, [79, 112, 66, 114, 97, 110, 99, 104, 32, 32, 105, 32, 32, 32, 56]),
  (250, [79, 112, 66, 114, 97, 110, 99, 104, 67, 111, 110, 100, 105, 116, 105, 111, 110, 97, 108, 32, 32, 105, 105, 105, 32, 32, 32, 56]),
  (251, [79, 112, 83, 119, 105, 116, 99, 104, 32, 32, 105, 105, 32, 110, 105, 32, 32, 56]),
  (252, [79, 112, 75, 105, 108, 108, 32, 32, 32, 32, 32, 56]),
  (253, [79, 112, 82, 101, 116, 117, 114, 110, 32, 32, 32, 32, 32, 56]),
  (254, [79, 112, 82, 101, 116, 117, 114, 110, 86, 97, 108, 117, 101, 32, 32, 105, 32, 32, 32, 56]),
  (255, [79, 112, 85, 110, 114, 101, 97, 99, 104, 97, 98, 108, 101, 32, 32, 32, 32, 32, 56])]
def namesT : List (Int × Byts) := [(107, [48, 32, 77, 97, 116, 114, 105, 120, 32, 49, 32, 83, 104, 97, 100, 101, 114, 32]),
  (97, [48, 32, 76, 111, 103, 105, 99, 97, 108, 32]),
  (109, [48, 32, 83, 105, 109, 112, 108, 101, 32, 49, 32, 71, 76, 83, 76, 52, 53, 48, 32]),
  (101, [48, 32, 86, 101, 114, 116, 101, 120, 32, 52, 32, 70, 114, 97, 103, 109, 101, 110, 116, 32]),
  (120, [55, 32, 79, 114, 105, 103, 105, 110, 85, 112, 112, 101, 114, 76, 101, 102, 116, 32]),
  (108, [48, 32, 85, 110, 107, 110, 111, 119, 110, 32, 49, 32, 69, 83, 83, 76, 32, 50, 32, 71, 76, 83, 76, 32]),
  (99, [49, 32, 73, 110, 112, 117, 116, 32, 51, 32, 79, 117, 116, 112, 117, 116, 32, 54, 32, 80, 114, 105, 118, 97, 116, 101, 32, 55, 32, 70, 117, 110, 99, 116, 105, 111, 110, 32]),
  (100, [48, 32, 82, 101, 108, 97, 120, 101, 100, 80, 114, 101, 99, 105, 115, 105, 111, 110, 32, 49, 49, 32, 66, 117, 105, 108, 116, 73, 110, 32, 49, 52, 32, 70, 108, 97, 116, 32, 51, 48, 32, 76, 111, 99, 97, 116, 105, 111, 110, 32]),
  (102, [48, 32, 78, 111, 110, 101, 32, 49, 32, 73, 110, 108, 105, 110, 101, 32, 50, 32, 68, 111, 110, 116, 73, 110, 108, 105, 110, 101, 32, 52, 32, 80, 117, 114, 101, 32, 56, 32, 67, 111, 110, 115, 116, 32]),
  (104, [48, 32, 78, 111, 110, 101, 32, 49, 32, 70, 108, 97, 116, 116, 101, 110, 32, 50, 32, 68, 111, 110, 116, 70, 108, 97, 116, 116, 101, 110, 32]),
  (103, [48, 32, 78, 111, 110, 101, 32, 49, 32, 85, 110, 114, 111, 108, 108, 32, 50, 32, 68, 111, 110, 116, 85, 110, 114, 111, 108, 108, 32])]
structure FormL where
  op : Int
  name : Byts
  ty : Bool
  res : Bool
  fixed : Byts
  rest : Byts
  most : Int
  part : Int
  deriving DecidableEq
def refT : List FormL := [⟨1, [79, 112, 85, 110, 100, 101, 102], true, true, [], [], 0, 7⟩,
  ⟨3, [79, 112, 83, 111, 117, 114, 99, 101], false, false, [108, 110], [], 0, 4⟩,
  ⟨5, [79, 112, 78, 97, 109, 101], false, false, [105, 115], [], 0, 5⟩,
  ⟨6, [79, 112, 77, 101, 109, 98, 101, 114, 78, 97, 109, 101], false, false, [105, 110, 115], [], 0, 5⟩,
  ⟨7, [79, 112, 83, 116, 114, 105, 110, 103], false, true, [115], [], 0, 4⟩,
  ⟨14, [79, 112, 77, 101, 109, 111, 114, 121, 77, 111, 100, 101, 108], false, false, [97, 109], [], 0, 1⟩,
  ⟨15, [79, 112, 69, 110, 116, 114, 121, 80, 111, 105, 110, 116], false, false, [101, 105, 115], [105], 0, 2⟩,
  ⟨16, [79, 112, 69, 120, 101, 99, 117, 116, 105, 111, 110, 77, 111, 100, 101], false, false, [105, 120], [], 0, 3⟩,
  ⟨17, [79, 112, 67, 97, 112, 97, 98, 105, 108, 105, 116, 121], false, false, [107], [], 0, 0⟩,
  ⟨19, [79, 112, 84, 121, 112, 101, 86, 111, 105, 100], false, true, [], [], 0, 7⟩,
  ⟨20, [79, 112, 84, 121, 112, 101, 66, 111, 111, 108], false, true, [], [], 0, 7⟩,
  ⟨21, [79, 112, 84, 121, 112, 101, 73, 110, 116], false, true, [110, 110], [], 0, 7⟩,
  ⟨23, [79, 112, 84, 121, 112, 101, 86, 101, 99, 116, 111, 114], false, true, [105, 110], [], 0, 7⟩,
  ⟨28, [79, 112, 84, 121, 112, 101, 65, 114, 114, 97, 121], false, true, [105, 105], [], 0, 7⟩,
  ⟨30, [79, 112, 84, 121, 112, 101, 83, 116, 114, 117, 99, 116], false, true, [], [105], 0, 7⟩,
  ⟨32, [79, 112, 84, 121, 112, 101, 80, 111, 105, 110, 116, 101, 114], false, true, [99, 105], [], 0, 7⟩,
  ⟨33, [79, 112, 84, 121, 112, 101, 70, 117, 110, 99, 116, 105, 111, 110], false, true, [105], [105], 0, 7⟩,
  ⟨41, [79, 112, 67, 111, 110, 115, 116, 97, 110, 116, 84, 114, 117, 101], true, true, [], [], 0, 7⟩,
  ⟨42, [79, 112, 67, 111, 110, 115, 116, 97, 110, 116, 70, 97, 108, 115, 101], true, true, [], [], 0, 7⟩,
  ⟨43, [79, 112, 67, 111, 110, 115, 116, 97, 110, 116], true, true, [110], [], 0, 7⟩,
  ⟨44, [79, 112, 67, 111, 110, 115, 116, 97, 110, 116, 67, 111, 109, 112, 111, 115, 105, 116, 101], true, true, [], [105], 0, 7⟩,
  ⟨46, [79, 112, 67, 111, 110, 115, 116, 97, 110, 116, 78, 117, 108, 108], true, true, [], [], 0, 7⟩,
  ⟨54, [79, 112, 70, 117, 110, 99, 116, 105, 111, 110], true, true, [102, 105], [], 0, 8⟩,
  ⟨55, [79, 112, 70, 117, 110, 99, 116, 105, 111, 110, 80, 97, 114, 97, 109, 101, 116, 101, 114], true, true, [], [], 0, 8⟩,
  ⟨56, [79, 112, 70, 117, 110, 99, 116, 105, 111, 110, 69, 110, 100], false, false, [], [], 0, 8⟩,
  ⟨57, [79, 112, 70, 117, 110, 99, 116, 105, 111, 110, 67, 97, 108, 108], true, true, [105], [105], 0, 8⟩,
  ⟨59, [79, 112, 86, 97, 114, 105, 97, 98, 108, 101], true, true, [99], [105], 1, 7⟩,
  ⟨61, [79, 112, 76, 111, 97, 100], true, true, [105], [], 0, 8⟩,
  ⟨62, [79, 112, 83, 116, 111, 114, 101], false, false, [105, 105], [], 0, 8⟩,
  ⟨65, [79, 112, 65, 99, 99, 101, 115, 115, 67, 104, 97, 105, 110], true, true, [105], [105], 0, 8⟩,
  ⟨71, [79, 112, 68, 101, 99, 111, 114, 97, 116, 101], false, false, [105, 100], [110], 0, 6⟩,
  ⟨77, [79, 112, 86, 101, 99, 116, 111, 114, 69, 120, 116, 114, 97, 99, 116, 68, 121, 110, 97, 109, 105, 99], true, true, [105, 105], [], 0, 8⟩,
  ⟨78, [79, 112, 86, 101, 99, 116, 111, 114, 73, 110, 115, 101, 114, 116, 68, 121, 110, 97, 109, 105, 99], true, true, [105, 105, 105], [], 0, 8⟩,
  ⟨79, [79, 112, 86, 101, 99, 116, 111, 114, 83, 104, 117, 102, 102, 108, 101], true, true, [105, 105], [110], 0, 8⟩,
  ⟨80, [79, 112, 67, 111, 109, 112, 111, 115, 105, 116, 101, 67, 111, 110, 115, 116, 114, 117, 99, 116], true, true, [], [105], 0, 8⟩,
  ⟨81, [79, 112, 67, 111, 109, 112, 111, 115, 105, 116, 101, 69, 120, 116, 114, 97, 99, 116], true, true, [105], [110], 0, 8⟩,
  ⟨82, [79, 112, 67, 111, 109, 112, 111, 115, 105, 116, 101, 73, 110, 115, 101, 114, 116], true, true, [105, 105], [110], 0, 8⟩,
  ⟨83, [79, 112, 67, 111, 112, 121, 79, 98, 106, 101, 99, 116], true, true, [105], [], 0, 8⟩,
  ⟨124, [79, 112, 66, 105, 116, 99, 97, 115, 116], true, true, [105], [], 0, 8⟩,
  ⟨126, [79, 112, 83, 78, 101, 103, 97, 116, 101], true, true, [105], [], 0, 8⟩,
  ⟨128, [79, 112, 73, 65, 100, 100], true, true, [105, 105], [], 0, 8⟩,
  ⟨130, [79, 112, 73, 83, 117, 98], true, true, [105, 105], [], 0, 8⟩,
  ⟨132, [79, 112, 73, 77, 117, 108], true, true, [105, 105], [], 0, 8⟩,
  ⟨134, [79, 112, 85, 68, 105, 118], true, true, [105, 105], [], 0, 8⟩,
  ⟨135, [79, 112, 83, 68, 105, 118], true, true, [105, 105], [], 0, 8⟩,
  ⟨137, [79, 112, 85, 77, 111, 100], true, true, [105, 105], [], 0, 8⟩,
  ⟨138, [79, 112, 83, 82, 101, 109], true, true, [105, 105], [], 0, 8⟩,
  ⟨139, [79, 112, 83, 77, 111, 100], true, true, [105, 105], [], 0, 8⟩,
  ⟨149, [79, 112, 73, 65, 100, 100, 67, 97, 114, 114, 121], true, true, [105, 105], [], 0, 8⟩,
  ⟨150, [79, 112, 73, 83, 117, 98, 66, 111, 114, 114, 111, 119], true, true, [105, 105], [], 0, 8⟩,
  ⟨151, [79, 112, 85, 77, 117, 108, 69, 120, 116, 101, 110, 100, 101, 100], true, true, [105, 105], [], 0, 8⟩,
  ⟨152, [79, 112, 83, 77, 117, 108, 69, 120, 116, 101, 110, 100, 101, 100], true, true, [105, 105], [], 0, 8⟩,
  ⟨154, [79, 112, 65, 110, 121], true, true, [105], [], 0, 8⟩,
  ⟨155, [79, 112, 65, 108, 108], true, true, [105], [], 0, 8⟩,
  ⟨164, [79, 112, 76, 111, 103, 105, 99, 97, 108, 69, 113, 117, 97, 108], true, true, [105, 105], [], 0, 8⟩,
  ⟨165, [79, 112, 76, 111, 103, 105, 99, 97, 108, 78, 111, 116, 69, 113, 117, 97, 108], true, true, [105, 105], [], 0, 8⟩,
  ⟨166, [79, 112, 76, 111, 103, 105, 99, 97, 108, 79, 114], true, true, [105, 105], [], 0, 8⟩,
  ⟨167, [79, 112, 76, 111, 103, 105, 99, 97, 108, 65, 110, 100], true, true, [105, 105], [], 0, 8⟩,
  ⟨168, [79, 112, 76, 111, 103, 105, 99, 97, 108, 78, 111, 116], true, true, [105], [], 0, 8⟩,
  ⟨169, [79, 112, 83, 101, 108, 101, 99, 116], true, true, [105, 105, 105], [], 0, 8⟩,
  ⟨170, [79, 112, 73, 69, 113, 117, 97, 108], true, true, [105, 105], [], 0, 8⟩,
  ⟨171, [79, 112, 73, 78, 111, 116, 69, 113, 117, 97, 108], true, true, [105, 105], [], 0, 8⟩,
  ⟨172, [79, 112, 85, 71, 114, 101, 97, 116, 101, 114, 84, 104, 97, 110], true, true, [105, 105], [], 0, 8⟩,
  ⟨173, [79, 112, 83, 71, 114, 101, 97, 116, 101, 114, 84, 104, 97, 110], true, true, [105, 105], [], 0, 8⟩,
  ⟨174, [79, 112, 85, 71, 114, 101, 97, 116, 101, 114, 84, 104, 97, 110, 69, 113, 117, 97, 108], true, true, [105, 105], [], 0, 8⟩,
  ⟨175, [79, 112, 83, 71, 114, 101, 97, 116, 101, 114, 84, 104, 97, 110, 69, 113, 117, 97, 108], true, true, [105, 105], [], 0, 8⟩,
  ⟨176, [79, 112, 85, 76, 101, 115, 115, 84, 104, 97, 110], true, true, [105, 105], [], 0, 8⟩,
  ⟨177, [79, 112, 83, 76, 101, 115, 115, 84, 104, 97, 110], true, true, [105, 105], [], 0, 8⟩,
  ⟨178, [79, 112, 85, 76, 101, 115, 115, 84, 104, 97, 110, 69, 113, 117, 97, 108], true, true, [105, 105], [], 0, 8⟩,
  ⟨179, [79, 112, 83, 76, 101, 115, 115, 84, 104, 97, 110, 69, 113, 117, 97, 108], true, true, [105, 105], [], 0, 8⟩,
  ⟨194, [79, 112, 83, 104, 105, 102, 116, 82, 105, 103, 104, 116, 76, 111, 103, 105, 99, 97, 108], true, true, [105, 105], [], 0, 8⟩,
  ⟨195, [79, 112, 83, 104, 105, 102, 116, 82, 105, 103, 104, 116, 65, 114, 105, 116, 104, 109, 101, 116, 105, 99], true, true, [105, 105], [], 0, 8⟩,
  ⟨196, [79, 112, 83, 104, 105, 102, 116, 76, 101, 102, 116, 76, 111, 103, 105, 99, 97, 108], true, true, [105, 105], [], 0, 8⟩,
  ⟨197, [79, 112, 66, 105, 116, 119, 105, 115, 101, 79, 114], true, true, [105, 105], [], 0, 8⟩,
  ⟨198, [79, 112, 66, 105, 116, 119, 105, 115, 101, 88, 111, 114], true, true, [105, 105], [], 0, 8⟩,
  ⟨199, [79, 112, 66, 105, 116, 119, 105, 115, 101, 65, 110, 100], true, true, [105, 105], [], 0, 8⟩,
  ⟨200, [79, 112, 78, 111, 116], true, true, [105], [], 0, 8⟩,
  ⟨201, [79, 112, 66, 105, 116, 70, 105, 101, 108, 100, 73, 110, 115, 101, 114, 116], true, true, [105, 105, 105, 105], [], 0, 8⟩,
  ⟨202, [79, 112, 66, 105, 116, 70, 105, 101, 108, 100, 83, 69, 120, 116, 114, 97, 99, 116], true, true, [105, 105, 105], [], 0, 8⟩,
  ⟨203, [79, 112, 66, 105, 116, 70, 105, 101, 108, 100, 85, 69, 120, 116, 114, 97, 99, 116], true, true, [105, 105, 105], [], 0, 8⟩,
  ⟨204, [79, 112, 66, 105, 116, 82, 101, 118, 101, 114, 115, 101], true, true, [105], [], 0, 8⟩,
  ⟨205, [79, 112, 66, 105, 116, 67, 111, 117, 110, 116], true, true, [105], [], 0, 8⟩,
  ⟨245, [79, 112, 80, 104, 105], true, true, [], [105, 105], 0, 8⟩,
  ⟨246, [79, 112, 76, 111, 111, 112, 77, 101, 114, 103, 101], false, false, [105, 105, 103], [], 0, 8⟩,
  ⟨247, [79, 112, 83, 101, 108, 101, 99, 116, 105, 111, 110, 77, 101, 114, 103, 101], false, false, [105, 104], [], 0, 8⟩,
  ⟨248, [79, 112, 76, 97, 98, 101, 108], false, true, [], [], 0, 8⟩,
  ⟨249, [79, 112, 66, 114, 97, 110, 99, 104], false, false, [105], [], 0, 8⟩,
  ⟨250, [79, 112, 66, 114, 97, 110, 99, 104, 67, 111, 110, 100, 105, 116, 105, 111, 110, 97, 108], false, false, [105, 105, 105], [], 0, 8⟩,
  ⟨251, [79, 112, 83, 119, 105, 116, 99, 104], false, false, [105, 105], [110, 105], 0, 8⟩,
  ⟨252, [79, 112, 75, 105, 108, 108], false, false, [], [], 0, 8⟩,
  ⟨253, [79, 112, 82, 101, 116, 117, 114, 110], false, false, [], [], 0, 8⟩,
  ⟨254, [79, 112, 82, 101, 116, 117, 114, 110, 86, 97, 108, 117, 101], false, false, [105], [], 0, 8⟩,
  ⟨255, [79, 112, 85, 110, 114, 101, 97, 99, 104, 97, 98, 108, 101], false, false, [], [], 0, 8⟩]
structure NameL where
  letter : Int
  n : Int
  name : Byts
  deriving DecidableEq
def namesL : List NameL := [⟨107, 0, [77, 97, 116, 114, 105, 120]⟩,
  ⟨107, 1, [83, 104, 97, 100, 101, 114]⟩,
  ⟨97, 0, [76, 111, 103, 105, 99, 97, 108]⟩,
  ⟨109, 0, [83, 105, 109, 112, 108, 101]⟩,
  ⟨109, 1, [71, 76, 83, 76, 52, 53, 48]⟩,
  ⟨101, 0, [86, 101, 114, 116, 101, 120]⟩,
  ⟨101, 4, [70, 114, 97, 103, 109, 101, 110, 116]⟩,
  ⟨120, 7, [79, 114, 105, 103, 105, 110, 85, 112, 112, 101, 114, 76, 101, 102, 116]⟩,
  ⟨108, 0, [85, 110, 107, 110, 111, 119, 110]⟩,
  ⟨108, 1, [69, 83, 83, 76]⟩,
  ⟨108, 2, [71, 76, 83, 76]⟩,
  ⟨99, 1, [73, 110, 112, 117, 116]⟩,
  ⟨99, 3, [79, 117, 116, 112, 117, 116]⟩,
  ⟨99, 6, [80, 114, 105, 118, 97, 116, 101]⟩,
  ⟨99, 7, [70, 117, 110, 99, 116, 105, 111, 110]⟩,
  ⟨100, 0, [82, 101, 108, 97, 120, 101, 100, 80, 114, 101, 99, 105, 115, 105, 111, 110]⟩,
  ⟨100, 11, [66, 117, 105, 108, 116, 73, 110]⟩,
  ⟨100, 14, [70, 108, 97, 116]⟩,
  ⟨100, 30, [76, 111, 99, 97, 116, 105, 111, 110]⟩,
  ⟨102, 0, [78, 111, 110, 101]⟩,
  ⟨102, 1, [73, 110, 108, 105, 110, 101]⟩,
  ⟨102, 2, [68, 111, 110, 116, 73, 110, 108, 105, 110, 101]⟩,
  ⟨102, 4, [80, 117, 114, 101]⟩,
  ⟨102, 8, [67, 111, 110, 115, 116]⟩,
  ⟨104, 0, [78, 111, 110, 101]⟩,
  ⟨104, 1, [70, 108, 97, 116, 116, 101, 110]⟩,
  ⟨104, 2, [68, 111, 110, 116, 70, 108, 97, 116, 116, 101, 110]⟩,
  ⟨103, 0, [78, 111, 110, 101]⟩,
  ⟨103, 1, [85, 110, 114, 111, 108, 108]⟩,
  ⟨103, 2, [68, 111, 110, 116, 85, 110, 114, 111, 108, 108]⟩]
def look (T : List (Int × Byts)) (n : Int) : Byts := match T with
  | [] => []
  | p :: T => if n = p.1 then p.2 else look T n
theorem look_none {n : Int} : ∀ {T : List (Int × Byts)}, (∀ p ∈ T, ¬ n = p.1) → look T n = []
  | [], _ => rfl
  | p :: T, h => by rw [look, if_neg (h p (.head _)), look_none fun q hq => h q (.tail _ hq)]
def rowS (op : Int) : Byts := if op ≤ 71 then look firstT op else if op ≤ 171 then look secondT op else look thirdT op
def refF (op : Int) : List FormL → Option FormL
  | [] => none
  | f :: T => if op = f.op then some f else refF op T
def refS (op : Int) : Option FormL := refF op refT
theorem refF_none {op : Int} : ∀ {T : List FormL}, (∀ f ∈ T, ¬ op = f.op) → refF op T = none
  | [], _ => rfl
  | f :: T, h => by rw [refF, if_neg (h f (.head _)), refF_none fun q hq => h q (.tail _ hq)]
theorem refF_mem {op : Int} {f : FormL} : ∀ {T : List FormL}, refF op T = some f → f ∈ T ∧ f.op = op
  | [], h => by cases h
  | g :: T, h => by
    rw [refF] at h
    split at h
    · cases h; exact ⟨.head _, by assumption |> Eq.symm⟩
    · have := refF_mem h; exact ⟨.tail _ this.1, this.2⟩
def zeroF : FormL := ⟨0, [], false, false, [], [], 0, 0⟩
abbrev formC (f : FormL) : List Value := [.int .u16 f.op, str f.name, .bool f.ty, .bool f.res, str f.fixed, str f.rest, .int .i64 f.most, .int .u8 f.part]
abbrev formV (o : Option FormL) : Value := .tuple #[.agg (formC (o.getD zeroF)).toArray, .bool o.isSome]

/-! a row's fields -/
def stepF (st : Nat × List Byts) (c : UInt8) : Nat × List Byts := if c = 32 then (st.1 + 1, st.2) else (st.1, st.2.modify st.1 (· ++ [c]))
def fieldsF (s : Byts) : Nat × List Byts := s.foldl stepF (0, [[], [], [], [], [], []])
def fieldsS (s : Byts) : List Byts := (fieldsF s).2
theorem take_succ {s : Byts} {i : Nat} (h : i < s.length) : s.take (i + 1) = s.take i ++ [s[i]] := by rw [List.take_succ_eq_append_getElem h]
theorem fieldsF_step {s : Byts} {i : Nat} (h : i < s.length) : fieldsF (s.take (i + 1)) = stepF (fieldsF (s.take i)) s[i] := by
  unfold fieldsF; rw [take_succ h, List.foldl_append]; rfl
theorem foldl_stepF : ∀ (s : Byts) (st : Nat × List Byts), st.1 ≤ (s.foldl stepF st).1 ∧ (s.foldl stepF st).2.length = st.2.length
  | [], st => ⟨Nat.le_refl _, rfl⟩
  | c :: s, st => by
    have h := foldl_stepF s (stepF st c)
    rw [List.foldl_cons]
    have e : st.1 ≤ (stepF st c).1 ∧ (stepF st c).2.length = st.2.length := by
      unfold stepF; split
      · exact ⟨by simp, rfl⟩
      · exact ⟨Nat.le_refl _, by simp⟩
    exact ⟨Nat.le_trans e.1 h.1, h.2.trans e.2⟩
theorem fieldsF_len (s : Byts) : (fieldsF s).2.length = 6 := (foldl_stepF s _).2
theorem fieldsF_at {s : Byts} {i : Nat} : (fieldsF (s.take i)).1 ≤ (fieldsF s).1 := by
  have : fieldsF s = (s.drop i).foldl stepF (fieldsF (s.take i)) := by
    unfold fieldsF; rw [← List.foldl_append, List.take_append_drop]
  rw [this]; exact (foldl_stepF _ _).1
theorem fieldsF_short (s : Byts) : ∀ i, i ≤ s.length → ∀ f ∈ (fieldsF (s.take i)).2, f.length ≤ i
  | 0, _ => by simp [fieldsF]
  | i + 1, h => by
    rw [fieldsF_step (by omega)]
    have ih := fieldsF_short s i (by omega)
    intro f hf
    unfold stepF at hf
    split at hf
    · have := ih f hf; omega
    · obtain ⟨j, hj, rfl⟩ := List.getElem_of_mem hf
      simp only [List.length_modify] at hj
      rw [List.getElem_modify]
      have := ih _ (List.getElem_mem hj)
      split <;> simp <;> omega
/-- what a row must be for the code to read it -/
def rowOk (s : Byts) : Bool := s.all (fun c => c.toNat < 128) && decide ((fieldsF s).1 ≤ 5) && decide (s.length ≤ 100) && (fieldsS s).all (fun f => f.all fun c => c.toNat < 128) && (s == [] || !((fieldsS s).getD 5 []).isEmpty)
def subU8 (c : UInt8) (n : Int) : Int := IntKind.u8.wrap ((c.toNat : Int) - n)
def ofS (op : Int) : Option FormL :=
  if rowS op = [] then none
  else some ⟨op, (fieldsS (rowS op)).getD 0 [], ((fieldsS (rowS op)).getD 1 []).contains 84, ((fieldsS (rowS op)).getD 1 []).contains 82, (fieldsS (rowS op)).getD 2 [], (fieldsS (rowS op)).getD 3 [],
    (if (fieldsS (rowS op)).getD 4 [] = [] then 0 else subU8 (((fieldsS (rowS op)).getD 4 []).getD 0 0) 48), subU8 (((fieldsS (rowS op)).getD 5 []).getD 0 0) 48⟩

theorem rows_small : (List.range 256).all (fun n => rowOk (rowS n) && decide (ofS n = refS n)) = true := by decide +kernel
theorem thirdT_small : thirdT.all (fun p => decide (p.1 ≤ 255)) = true := by decide +kernel
theorem refT_small : refT.all (fun f => decide (0 ≤ f.op ∧ f.op ≤ 255)) = true := by decide +kernel
theorem rowS_big {op : Int} (h : 255 < op) : rowS op = [] := by
  unfold rowS
  rw [if_neg (by omega), if_neg (by omega)]
  refine look_none fun p hp e => ?_
  have := List.all_eq_true.1 thirdT_small p hp
  simp only [decide_eq_true_eq] at this
  omega
theorem refS_big {op : Int} (h : 255 < op) : refS op = none := refF_none fun f hf e => by
  have := List.all_eq_true.1 refT_small f hf
  simp only [decide_eq_true_eq] at this
  omega
theorem rowS_all {op : Int} (h : 0 ≤ op) : rowOk (rowS op) = true ∧ ofS op = refS op := by
  by_cases hb : 255 < op
  · have e : ofS op = none := by unfold ofS; rw [if_pos (rowS_big hb)]
    rw [rowS_big hb, refS_big hb, e]; exact ⟨by decide +kernel, rfl⟩
  · have := List.all_eq_true.1 rows_small op.toNat (List.mem_range.2 (by omega))
    simp only [Bool.and_eq_true, decide_eq_true_eq] at this
    rw [show ((op.toNat : Nat) : Int) = op by omega] at this
    exact this
theorem rowOk_spec {s : Byts} (h : rowOk s = true) : (∀ c ∈ s, c.toNat < 128) ∧ (fieldsF s).1 ≤ 5 ∧ s.length ≤ 100 ∧ (∀ f ∈ fieldsS s, ∀ c ∈ f, c.toNat < 128) ∧ (s = [] ∨ (fieldsS s).getD 5 [] ≠ []) := by
  simp only [rowOk, Bool.and_eq_true, List.all_eq_true, decide_eq_true_eq, Bool.or_eq_true, beq_iff_eq, Bool.not_eq_true', List.isEmpty_eq_false_iff] at h
  exact ⟨h.1.1.1.1, h.1.1.1.2, h.1.1.2, h.1.2, h.2⟩
theorem refS_op {op : Int} {f : FormL} (h : refS op = some f) : f.op = op := (refF_mem h).2
/-- what all forms are -/
def formOk (f : FormL) : Bool := decide (0 ≤ f.op ∧ f.op ≤ 255) && decide (0 ≤ f.most ∧ f.most ≤ 9) && decide (f.fixed.length ≤ 40) && decide (f.rest.length ≤ 40) && decide (f.name.length ≤ 100) && decide (0 ≤ f.part ∧ f.part ≤ 9) && f.fixed.all (· != 0) && f.rest.all (· != 0)
theorem refT_ok : refT.all formOk = true := by decide +kernel
theorem refS_ok {op : Int} {f : FormL} (h : refS op = some f) : formOk f = true := List.all_eq_true.1 refT_ok f (refF_mem h).1
theorem getD_short {l : List Byts} {n i : Nat} (h : ∀ f ∈ l, f.length ≤ n) : (l.getD i []).length ≤ n := by
  by_cases hi : i < l.length
  · simp only [List.getD, List.getElem?_eq_getElem hi, Option.getD_some]; exact h _ (List.getElem_mem hi)
  · simp [List.getD, List.getElem?_eq_none (Nat.le_of_not_lt hi)]
theorem has_step {l : Byts} {i : Nat} (x : UInt8) {m : Int} (hm : ((x.toNat : Nat) : Int) = m) (h : i < l.length) : (l.take (i + 1)).contains x = ((l.take i).contains x || decide ((l[i].toNat : Int) = m)) := by
  subst hm
  rw [take_succ h, List.contains_eq_any_beq, List.any_append, ← List.contains_eq_any_beq]
  congr 1
  simp only [List.any_cons, List.any_nil, Bool.or_false]
  by_cases e : x = l[i]
  · rw [e]; simp
  · rw [show (x == l[i]) = false from beq_eq_false_iff_ne.2 e]
    symm
    rw [decide_eq_false_iff_not]
    intro he
    exact e (UInt8.toNat_inj.1 (by omega))
theorem u8wrap_bd (n : Int) : 0 ≤ IntKind.u8.wrap n ∧ IntKind.u8.wrap n ≤ 255 := by simp [IntKind.wrap, IntKind.bits, IntKind.signed]; omega
def numStep (n : Int) (c : UInt8) : Int := IntKind.u32.wrap (IntKind.u32.wrap (10 * n) + IntKind.u32.wrap ((c.toNat : Int) - 48))
def numF (s : Byts) : Int := s.foldl numStep 0
theorem numF_step {s : Byts} {i : Nat} (h : i < s.length) : numF (s.take (i + 1)) = numStep (numF (s.take i)) s[i] := by
  unfold numF; rw [take_succ h, List.foldl_append]; rfl
theorem u32wrap_bd (n : Int) : 0 ≤ IntKind.u32.wrap n ∧ IntKind.u32.wrap n ≤ 4294967295 := by simp [IntKind.wrap, IntKind.bits, IntKind.signed]; omega
/-! a search through a list -/
theorem find_hit {α : Type} {p : α → Bool} {l : List α} {i : Nat} {d : α} {R : Option α} (h : (l.drop i).find? p = R) (hi : i < l.length) (hp : p (l.getD i d) = true) : R = some (l.getD i d) := by
  rw [List.drop_eq_getElem_cons hi] at h
  simp only [List.getD, List.getElem?_eq_getElem hi, Option.getD_some] at hp ⊢
  rw [List.find?_cons_of_pos hp] at h
  exact h.symm
theorem find_miss {α : Type} {p : α → Bool} {l : List α} {i : Nat} {d : α} {R : Option α} (h : (l.drop i).find? p = R) (hi : i < l.length) (hp : p (l.getD i d) = false) : (l.drop (i + 1)).find? p = R := by
  rw [List.drop_eq_getElem_cons hi] at h
  simp only [List.getD, List.getElem?_eq_getElem hi, Option.getD_some] at hp
  rwa [List.find?_cons_of_neg (by simp [hp])] at h
theorem find_end {α : Type} {p : α → Bool} {l : List α} {i : Nat} {R : Option α} (h : (l.drop i).find? p = R) (hi : l.length ≤ i) : R = none := by
  rw [List.drop_eq_nil_of_le hi] at h; exact h.symm

/-! enumerants -/
def zeroN : NameL := ⟨0, 0, []⟩
abbrev nameC (n : NameL) : List Value := [.int .u8 n.letter, .int .u32 n.n, str n.name]
theorem nameC_len (n : NameL) : (nameC n).length = 3 := rfl
theorem formC_len (f : FormL) : (formC f).length = 8 := rfl
abbrev enN (c n : Int) (x : NameL) : Bool := decide (x.letter = c ∧ x.n = n)
abbrev enS (c : Int) (s : Byts) (x : NameL) : Bool := decide (x.letter = c ∧ x.name = s)
abbrev nameV (o : Option NameL) : Value := .tuple #[str (o.getD zeroN).name, .bool o.isSome]
abbrev numV (o : Option NameL) : Value := .tuple #[.int .u32 (o.getD zeroN).n, .bool o.isSome]
/-- a letter's enumerants -/
def enumsL (c : Int) : List NameL := namesL.filter fun x => decide (x.letter = c)
/-- as the code reads them off its row -/
structure EnSt where
  n : Int
  word : Byts
  num : Bool
  out : List (Int × Byts)
def enStep (st : EnSt) (c : UInt8) : EnSt :=
  if c ≠ 32 then ⟨st.n, st.word ++ [c], st.num, st.out⟩
  else if st.num then ⟨st.n, [], false, st.out ++ [(st.n, st.word)]⟩ else ⟨numF st.word, [], true, st.out⟩
def enF (s : Byts) : EnSt := s.foldl enStep ⟨0, [], false, []⟩
theorem enF_step {s : Byts} {i : Nat} (h : i < s.length) : enF (s.take (i + 1)) = enStep (enF (s.take i)) s[i] := by
  unfold enF; rw [take_succ h, List.foldl_append]; rfl
theorem enF_inv (s : Byts) (hs : ∀ c ∈ s, c.toNat < 128) : ∀ i, i ≤ s.length → (enF (s.take i)).word.length ≤ i ∧ ∀ c ∈ (enF (s.take i)).word, c.toNat < 128
  | 0, _ => by simp [enF]
  | i + 1, h => by
    have ih := enF_inv s hs i (by omega)
    rw [enF_step (by omega)]
    unfold enStep
    split
    · refine ⟨by simp; omega, fun c hc => ?_⟩
      rcases List.mem_append.1 hc with hc | hc
      · exact ih.2 c hc
      · rw [List.mem_singleton.1 hc]; exact hs _ (List.getElem_mem _)
    · split <;> exact ⟨by simp, by simp⟩
theorem foldl_enStep : ∀ (s : Byts) (st : EnSt), ∃ t, (s.foldl enStep st).out = st.out ++ t
  | [], st => ⟨[], by simp⟩
  | c :: s, st => by
    obtain ⟨t, ht⟩ := foldl_enStep s (enStep st c)
    rw [List.foldl_cons, ht]
    unfold enStep
    split
    · exact ⟨t, rfl⟩
    · split
      · exact ⟨(st.n, st.word) :: t, by simp⟩
      · exact ⟨t, rfl⟩
theorem enF_out (s : Byts) (i : Nat) : ∃ t, (enF s).out = (enF (s.take i)).out ++ t := by
  have : enF s = (s.drop i).foldl enStep (enF (s.take i)) := by
    unfold enF; rw [← List.foldl_append, List.take_append_drop]
  rw [this]; exact foldl_enStep _ _
/-- what is told at a blank behind a name -/
theorem enF_told {s : Byts} {l : List (Int × Byts)} (hl : (enF s).out = l) {i : Nat} (h : i < s.length) (hc : s[i] = 32) (hn : (enF (s.take i)).num = true) :
    (enF (s.take i)).out.length < l.length ∧ l.getD (enF (s.take i)).out.length (0, []) = ((enF (s.take i)).n, (enF (s.take i)).word) := by
  obtain ⟨t, ht⟩ := enF_out s (i + 1)
  rw [enF_step h] at ht
  have e : (enStep (enF (s.take i)) s[i]).out = (enF (s.take i)).out ++ [((enF (s.take i)).n, (enF (s.take i)).word)] := by
    unfold enStep; rw [if_neg (by simp [hc]), if_pos hn]
  rw [e, List.append_assoc] at ht
  subst hl
  rw [ht]
  refine ⟨by simp, ?_⟩
  simp [List.getD]
def namesOk (s : Byts) : Bool := s.all (fun c => c.toNat < 128) && decide (s.length ≤ 100)
theorem names_small : (List.range 256).all (fun n => namesOk (look namesT n) && decide ((enF (look namesT n)).out = (enumsL n).map fun x => (x.n, x.name))) = true := by decide +kernel
theorem names_all {c : Int} (h0 : 0 ≤ c) (h1 : c ≤ 255) : (∀ x ∈ look namesT c, x.toNat < 128) ∧ (look namesT c).length ≤ 100 ∧ (enF (look namesT c)).out = (enumsL c).map fun x => (x.n, x.name) := by
  have := List.all_eq_true.1 names_small c.toNat (List.mem_range.2 (by omega))
  rw [show ((c.toNat : Nat) : Int) = c by omega] at this
  simp only [namesOk, Bool.and_eq_true, List.all_eq_true, decide_eq_true_eq] at this
  exact ⟨this.1.1, this.1.2, this.2⟩
theorem enums_find {c n : Int} : (enumsL c).find? (fun x => decide (x.n = n)) = namesL.find? (enN c n) := by
  unfold enumsL; rw [List.find?_filter]; congr 1; funext x
  simp [enN]
theorem enums_findS {c : Int} {s : Byts} : (enumsL c).find? (fun x => decide (x.name = s)) = namesL.find? (enS c s) := by
  unfold enumsL; rw [List.find?_filter]; congr 1; funext x
  simp [enS]
theorem enums_len (c : Int) : (enumsL c).length ≤ 30 := by
  unfold enumsL
  have : namesL.length = 30 := by decide +kernel
  have := List.length_filter_le (fun x => decide (x.letter = c)) namesL
  omega
theorem map_getD {α β : Type} {l : List α} {f : α → β} {k : Nat} {d : α} {d' : β} (hk : k < l.length) : (l.map f).getD k d' = f (l.getD k d) := by
  simp [List.getD, hk]
def ownL (c : Int) (i : Nat) : List NameL := (namesL.take i).filter fun x => decide (x.letter = c)
theorem take_getD {α : Type} {l : List α} {i : Nat} {d : α} (h : i < l.length) : l.take (i + 1) = l.take i ++ [l.getD i d] := by
  rw [List.take_succ_eq_append_getElem h]; simp [List.getD, h]
theorem own_yes {c : Int} {i : Nat} (h : i < namesL.length) (hc : (namesL.getD i zeroN).letter = c) : ownL c (i + 1) = ownL c i ++ [namesL.getD i zeroN] := by
  unfold ownL; rw [take_getD (d := zeroN) h, List.filter_append]; congr 1; simp only [List.filter_cons, decide_eq_true hc, if_true, List.filter_nil]
theorem own_no {c : Int} {i : Nat} (h : i < namesL.length) (hc : ¬ (namesL.getD i zeroN).letter = c) : ownL c (i + 1) = ownL c i := by
  unfold ownL; rw [take_getD (d := zeroN) h, List.filter_append]; simp only [List.filter_cons, decide_eq_false hc, List.filter_nil]; simp
theorem own_all (c : Int) : ownL c namesL.length = enumsL c := by unfold ownL; rw [List.take_length]; rfl
theorem own_len (c : Int) (i : Nat) : (ownL c i).length ≤ i := by
  unfold ownL
  exact Nat.le_trans (List.length_filter_le _ _) (by simp; omega)
/-! all forms, in their order -/
def allL (n : Nat) : List FormL := refT.filter fun f => decide (f.op < (n : Int))
theorem all_small : (List.range 256).all (fun n => decide (allL (n + 1) = allL n ++ (refS n).toList) && decide ((refS n).isSome = true → refT.getD (allL n).length zeroF = (refS n).getD zeroF ∧ (allL n).length < refT.length)) = true := by decide +kernel
theorem all_step {n : Nat} (h : n < 256) : allL (n + 1) = allL n ++ (refS n).toList ∧ ((refS n).isSome = true → refT.getD (allL n).length zeroF = (refS n).getD zeroF ∧ (allL n).length < refT.length) := by
  have := List.all_eq_true.1 all_small n (List.mem_range.2 h)
  simpa only [Bool.and_eq_true, decide_eq_true_eq] using this
theorem all_none {n : Nat} (h : n < 256) (hs : (refS n).isSome = false) : allL (n + 1) = allL n := by
  rw [(all_step h).1, show refS n = none by simpa using hs]; simp
theorem all_some {n : Nat} (h : n < 256) (hs : (refS n).isSome = true) : allL (n + 1) = allL n ++ [(refS n).getD zeroF] := by
  rw [(all_step h).1]
  obtain ⟨f, hf⟩ := Option.isSome_iff_exists.1 hs
  rw [hf]; rfl
theorem all_256 : allL 256 = refT := by decide +kernel
theorem all_0 : allL 0 = [] := by decide +kernel
theorem refT_len : refT.length = 93 := by decide +kernel
theorem all_len (n : Nat) : (allL n).length ≤ 93 := by
  rw [← refT_len]; exact List.length_filter_le _ _
abbrev nmF (q : Byts) (f : FormL) : Bool := decide (f.name = q)
/-! kinds and letters -/
def kindS (c : Int) : Int := if c = 105 then 1 else if c = 110 then 2 else if c = 115 then 3 else if look namesT c ≠ [] then 4 else 0
theorem names_any_small : (List.range 256).all (fun n => decide ((look namesT n ≠ []) ↔ (namesL.find? (fun x => decide (x.letter = (n : Int)))).isSome = true)) = true := by decide +kernel
theorem names_any {c : Int} (h0 : 0 ≤ c) (h1 : c ≤ 255) : (look namesT c ≠ []) ↔ (namesL.find? (fun x => decide (x.letter = c))).isSome = true := by
  have := List.all_eq_true.1 names_any_small c.toNat (List.mem_range.2 (by omega))
  rw [show ((c.toNat : Nat) : Int) = c by omega] at this
  simpa only [decide_eq_true_eq] using this
theorem refD_ok (op : Int) : formOk ((refS op).getD zeroF) = true := by
  cases h : refS op with
  | none => decide +kernel
  | some f => exact refS_ok h
structure FOk (f : FormL) : Prop where
  op : 0 ≤ f.op ∧ f.op ≤ 255
  most : 0 ≤ f.most ∧ f.most ≤ 9
  fixed : f.fixed.length ≤ 40
  rest : f.rest.length ≤ 40
  name : f.name.length ≤ 100
  part : 0 ≤ f.part ∧ f.part ≤ 9
  fix0 : ∀ c ∈ f.fixed, c ≠ 0
  rest0 : ∀ c ∈ f.rest, c ≠ 0
theorem FOk.of {f : FormL} (h : formOk f = true) : FOk f := by
  simp only [formOk, Bool.and_eq_true, decide_eq_true_eq, List.all_eq_true, bne_iff_ne] at h
  obtain ⟨⟨⟨⟨⟨⟨⟨h1, h2⟩, h3⟩, h4⟩, h5⟩, h6⟩, h7⟩, h8⟩ := h
  exact ⟨h1, h2, h3, h4, h5, h6, h7, h8⟩
abbrev refD (op : Int) : FormL := (refS op).getD zeroF
theorem refD_fok (op : Int) : FOk (refD op) := FOk.of (refD_ok op)
def fixS (f : FormL) (i : Int) : Int := if i < 0 ∨ (f.fixed.length : Int) ≤ i then 0 else ((f.fixed.getD i.toNat 0).toNat : Int)
def restS (f : FormL) (i : Int) : Int :=
  if i - f.fixed.length < 0 ∨ f.rest = [] ∨ (0 < f.most ∧ f.most * f.rest.length ≤ i - f.fixed.length) then 0
  else ((f.rest.getD ((i - f.fixed.length) % f.rest.length).toNat 0).toNat : Int)
def letterS (f : FormL) (i : Int) : Int := if i < 0 then 0 else if i < f.fixed.length then ((f.fixed.getD i.toNat 0).toNat : Int) else restS f i
theorem fix_ne {f : FormL} (hf : FOk f) {i : Int} (h0 : 0 ≤ i) (h1 : i < f.fixed.length) : fixS f i = ((f.fixed.getD i.toNat 0).toNat : Int) ∧ fixS f i ≠ 0 := by
  have e : fixS f i = ((f.fixed.getD i.toNat 0).toNat : Int) := by unfold fixS; rw [if_neg (by omega)]
  refine ⟨e, ?_⟩
  rw [e]
  have hi : i.toNat < f.fixed.length := by omega
  have hc := hf.fix0 _ (List.getElem_mem hi)
  simp only [List.getD, List.getElem?_eq_getElem hi, Option.getD_some]
  intro h
  exact hc (UInt8.toNat_inj.1 (by simpa using (by omega : f.fixed[i.toNat].toNat = 0)))
theorem letter_fix {f : FormL} (hf : FOk f) {i : Int} (h0 : 0 ≤ i) (h : ¬ fixS f i = 0) : letterS f i = fixS f i := by
  have h1 : i < f.fixed.length := by
    refine Classical.byContradiction fun hn => h ?_
    unfold fixS; rw [if_pos (by omega)]
  rw [(fix_ne hf h0 h1).1]; unfold letterS; rw [if_neg (by omega), if_pos h1]
theorem letter_rest {f : FormL} (hf : FOk f) {i : Int} (h0 : 0 ≤ i) (h : fixS f i = 0) : letterS f i = restS f i := by
  have h1 : ¬ i < f.fixed.length := fun hn => (fix_ne hf h0 hn).2 h
  unfold letterS; rw [if_neg (by omega), if_neg h1]
theorem byte_bd (c : UInt8) : 0 ≤ (c.toNat : Int) ∧ (c.toNat : Int) ≤ 255 := by have := c.toNat_lt; omega
theorem letterS_bd (f : FormL) (i : Int) : 0 ≤ letterS f i ∧ letterS f i ≤ 255 := by
  unfold letterS restS
  have h1 := byte_bd (f.fixed.getD i.toNat 0)
  have h2 := byte_bd (f.rest.getD ((i - f.fixed.length) % f.rest.length).toNat 0)
  repeat (split; · omega)
  omega
theorem kindS_bd (c : Int) : 0 ≤ kindS c ∧ kindS c ≤ 4 := by
  unfold kindS
  repeat (split; · omega)
  omega
theorem most_div {k r m : Int} (hr : 0 < r) : (m ≤ k / r ↔ m * r ≤ k) := Int.le_ediv_iff_mul_le hr
theorem find_name_small : refT.all (fun f => decide (refT.find? (nmF f.name) = some f)) = true := by decide +kernel
theorem find_name {op : Int} {f : FormL} (h : refS op = some f) : refT.find? (nmF f.name) = some f := by
  have := List.all_eq_true.1 find_name_small f (refF_mem h).1
  simpa only [decide_eq_true_eq] using this
theorem find_enum_small : namesL.all (fun x => decide (namesL.find? (enS x.letter x.name) = some x) && decide (look namesT x.letter ≠ [] ∧ kindS x.letter = 4)) = true := by decide +kernel
theorem find_enum {c n : Int} {x : NameL} (h : namesL.find? (enN c n) = some x) : x.letter = c ∧ x.n = n ∧ namesL.find? (enS c x.name) = some x ∧ kindS c = 4 := by
  have h1 : x.letter = c ∧ x.n = n := by simpa using List.find?_some h
  have := List.all_eq_true.1 find_enum_small x (List.mem_of_find?_eq_some h)
  simp only [Bool.and_eq_true, decide_eq_true_eq] at this
  obtain ⟨h2, h3, h4⟩ := this
  rw [h1.1] at h2 h4
  exact ⟨h1.1, h1.2, h2, h4⟩
theorem find_IAdd : refT.find? (nmF [79, 112, 73, 65, 100, 100]) = refS 128 ∧ refS 128 = some ⟨128, [79, 112, 73, 65, 100, 100], true, true, [105, 105], [], 0, 8⟩ := by decide +kernel
theorem refD_none {op : Int} (h : (refS op).isSome = false) : refD op = zeroF := by
  rw [refD, show refS op = none by simpa using h]; rfl
theorem refD_some {op : Int} (h : (refS op).isSome = true) : refT.find? (nmF (refD op).name) = some (refD op) ∧ (refD op).op = op := by
  obtain ⟨f, hf⟩ := Option.isSome_iff_exists.1 h
  rw [refD, hf]
  exact ⟨find_name hf, refS_op hf⟩
theorem letter_zero (i : Int) : letterS zeroF i = 0 := by
  unfold letterS
  by_cases h : i < 0
  · rw [if_pos h]
  · rw [if_neg h, if_neg (by show ¬ i < 0; omega)]
    unfold restS
    rw [if_pos (.inr (.inl rfl))]
theorem div_bd {a b : Int} (ha : 0 ≤ a) (hb : 0 < b) : 0 ≤ a / b ∧ a / b ≤ a := ⟨Int.ediv_nonneg ha (by omega), Int.ediv_le_self b ha⟩

end Go.SK
