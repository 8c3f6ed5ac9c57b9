/-
  Steps of functions, plain law, and walks of functions: what the laws rest on.
-/
import Derived.Test.YtbjkagmkphmefaaSkG0a
set_option linter.unusedVariables false
set_option linter.unusedSimpArgs false
set_option linter.unusedSectionVars false
namespace Go.SK
abbrev Byts := List UInt8
def firstT : List (Int × Byts) := [(1, [79, 112, 85, 110, 100, 101, 102, 32, 84, 82, 32, 32, 32, 32, 55]),
  (3, [79, 112, 83, 111, 117, 114, 99, 101, 32, 32, 108, 110, 32, 32, 32, 52]),
  (5, [79, 112, 78, 97, 109, 101, 32, 32, 105, 115, 32, 32, 32, 53]),
  (6, [79, 112, 77, 101, 109, 98, 101, 114, 78, 97, 109, 101, 32, 32, 105, 110, 115, 32, 32, 32, 53]),
  (7, [79, 112, 83, 116, 114, 105, 110, 103, 32, 82, 32, 115, 32, 32, 32, 52]),
  (14, [79, 112, 77, 101, 109, 111, 114, 121, 77, 111, 100, 101, 108, 32, 32, 97, 109, 32, 32, 32, 49]),
  (15, [79, 112, 69, 110, 116, 114, 121, 80, 111, 105, 110, 116, 32, 32, 101, 105, 115, 32, 105, 32, 32, 50]),
  (16, [79, 112, 69, 120, 101, 99, 117, 116, 105, 111, 110, 77, 111, 100, 101, 32, 32, 105, 120, 32, 32, 32, 51]),
  (17, [79, 112, 67, 97, 112, 97, 98, 105, 108, 105, 116, 121, 32, 32, 107, 32, 32, 32, 48]),
  (19, [79, 112, 84, 121, 112, 101, 86, 111, 105, 100, 32, 82, 32, 32, 32, 32, 55]),
  (20, [79, 112, 84, 121, 112, 101, 66, 111, 111, 108, 32, 82, 32, 32, 32, 32, 55]),
  (21, [79, 112, 84, 121, 112, 101, 73, 110, 116, 32, 82, 32, 110, 110, 32, 32, 32, 55]),
  (23, [79, 112, 84, 121, 112, 101, 86, 101, 99, 116, 111, 114, 32, 82, 32, 105, 110, 32, 32, 32, 55]),
  (28, [79, 112, 84, 121, 112, 101, 65, 114, 114, 97, 121, 32, 82, 32, 105, 105, 32, 32, 32, 55]),
  (30, [79, 112, 84, 121, 112, 101, 83, 116, 114, 117, 99, 116, 32, 82, 32, 32, 105, 32, 32, 55]),
  (32, [79, 112, 84, 121, 112, 101, 80, 111, 105, 110, 116, 101, 114, 32, 82, 32, 99, 105, 32, 32, 32, 55]),
  (33, [79, 112, 84, 121, 112, 101, 70, 117, 110, 99, 116, 105, 111, 110, 32, 82, 32, 105, 32, 105, 32, 32, 55]),
  (41, [79, 112, 67, 111, 110, 115, 116, 97, 110, 116, 84, 114, 117, 101, 32, 84, 82, 32, 32, 32, 32, 55]),
  (42, [79, 112, 67, 111, 110, 115, 116, 97, 110, 116, 70, 97, 108, 115, 101, 32, 84, 82, 32, 32, 32, 32, 55]),
  (43, [79, 112, 67, 111, 110, 115, 116, 97, 110, 116, 32, 84, 82, 32, 110, 32, 32, 32, 55]),
  (44, [79, 112, 67, 111, 110, 115, 116, 97, 110, 116, 67, 111, 109, 112, 111, 115, 105, 116, 101, 32, 84, 82, 32, 32, 105, 32, 32, 55]),
  (46, [79, 112, 67, 111, 110, 115, 116, 97, 110, 116, 78, 117, 108, 108, 32, 84, 82, 32, 32, 32, 32, 55]),
  (54, [79, 112, 70, 117, 110, 99, 116, 105, 111, 110, 32, 84, 82, 32, 102, 105, 32, 32, 32, 56]),
  (55, [79, 112, 70, 117, 110, 99, 116, 105, 111, 110, 80, 97, 114, 97, 109, 101, 116, 101, 114, 32, 84, 82, 32, 32, 32, 32, 56]),
  (56, [79, 112, 70, 117, 110, 99, 116, 105, 111, 110, 69, 110, 100, 32, 32, 32, 32, 32, 56]),
  (57, [79, 112, 70, 117, 110, 99, 116, 105, 111, 110, 67, 97, 108, 108, 32, 84, 82, 32, 105, 32, 105, 32, 32, 56]),
  (59, [79, 112, 86, 97, 114, 105, 97, 98, 108, 101, 32, 84, 82, 32, 99, 32, 105, 32, 49, 32, 55]),
  (61, [79, 112, 76, 111, 97, 100, 32, 84, 82, 32, 105, 32, 32, 32, 56]),
  (62, [79, 112, 83, 116, 111, 114, 101, 32, 32, 105, 105, 32, 32, 32, 56]),
  (65, [79, 112, 65, 99, 99, 101, 115, 115, 67, 104, 97, 105, 110, 32, 84, 82, 32, 105, 32, 105, 32, 32, 56]),
  (71, [79, 112, 68, 101, 99, 111, 114, 97, 116, 101, 32, 32, 105, 100, 32, 110, 32, 32, 54])]
def secondT : List (Int × Byts) := [(77, [79, 112, 86, 101, 99, 116, 111, 114, 69, 120, 116, 114, 97, 99, 116, 68, 121, 110, 97, 109, 105, 99, 32, 84, 82, 32, 105, 105, 32, 32, 32, 56]),
  (78, [79, 112, 86, 101, 99, 116, 111, 114, 73, 110, 115, 101, 114, 116, 68, 121, 110, 97, 109, 105, 99, 32, 84, 82, 32, 105, 105, 105, 32, 32, 32, 56]),
  (79, [79, 112, 86, 101, 99, 116, 111, 114, 83, 104, 117, 102, 102, 108, 101, 32, 84, 82, 32, 105, 105, 32, 110, 32, 32, 56]),
  (80, [79, 112, 67, 111, 109, 112, 111, 115, 105, 116, 101, 67, 111, 110, 115, 116, 114, 117, 99, 116, 32, 84, 82, 32, 32, 105, 32, 32, 56]),
  (81, [79, 112, 67, 111, 109, 112, 111, 115, 105, 116, 101, 69, 120, 116, 114, 97, 99, 116, 32, 84, 82, 32, 105, 32, 110, 32, 32, 56]),
  (82, [79, 112, 67, 111, 109, 112, 111, 115, 105, 116, 101, 73, 110, 115, 101, 114, 116, 32, 84, 82, 32, 105, 105, 32, 110, 32, 32, 56]),
  (83, [79, 112, 67, 111, 112, 121, 79, 98, 106, 101, 99, 116, 32, 84, 82, 32, 105, 32, 32, 32, 56]),
  (124, [79, 112, 66, 105, 116, 99, 97, 115, 116, 32, 84, 82, 32, 105, 32, 32, 32, 56]),
  (126, [79, 112, 83, 78, 101, 103, 97, 116, 101, 32, 84, 82, 32, 105, 32, 32, 32, 56]),
  (128, [79, 112, 73, 65, 100, 100, 32, 84, 82, 32, 105, 105, 32, 32, 32, 56]),
  (130, [79, 112, 73, 83, 117, 98, 32, 84, 82, 32, 105, 105, 32, 32, 32, 56]),
  (132, [79, 112, 73, 77, 117, 108, 32, 84, 82, 32, 105, 105, 32, 32, 32, 56]),
  (134, [79, 112, 85, 68, 105, 118, 32, 84, 82, 32, 105, 105, 32, 32, 32, 56]),
  (135, [79, 112, 83, 68, 105, 118, 32, 84, 82, 32, 105, 105, 32, 32, 32, 56]),
  (137, [79, 112, 85, 77, 111, 100, 32, 84, 82, 32, 105, 105, 32, 32, 32, 56]),
  (138, [79, 112, 83, 82, 101, 109, 32, 84, 82, 32, 105, 105, 32, 32, 32, 56]),
  (139, [79, 112, 83, 77, 111, 100, 32, 84, 82, 32, 105, 105, 32, 32, 32, 56]),
  (149, [79, 112, 73, 65, 100, 100, 67, 97, 114, 114, 121, 32, 84, 82, 32, 105, 105, 32, 32, 32, 56]),
  (150, [79, 112, 73, 83, 117, 98, 66, 111, 114, 114, 111, 119, 32, 84, 82, 32, 105, 105, 32, 32, 32, 56]),
  (151, [79, 112, 85, 77, 117, 108, 69, 120, 116, 101, 110, 100, 101, 100, 32, 84, 82, 32, 105, 105, 32, 32, 32, 56]),
  (152, [79, 112, 83, 77, 117, 108, 69, 120, 116, 101, 110, 100, 101, 100, 32, 84, 82, 32, 105, 105, 32, 32, 32, 56]),
  (154, [79, 112, 65, 110, 121, 32, 84, 82, 32, 105, 32, 32, 32, 56]),
  (155, [79, 112, 65, 108, 108, 32, 84, 82, 32, 105, 32, 32, 32, 56]),
  (164, [79, 112, 76, 111, 103, 105, 99, 97, 108, 69, 113, 117, 97, 108, 32, 84, 82, 32, 105, 105, 32, 32, 32, 56]),
  (165, [79, 112, 76, 111, 103, 105, 99, 97, 108, 78, 111, 116, 69, 113, 117, 97, 108, 32, 84, 82, 32, 105, 105, 32, 32, 32, 56]),
  (166, [79, 112, 76, 111, 103, 105, 99, 97, 108, 79, 114, 32, 84, 82, 32, 105, 105, 32, 32, 32, 56]),
  (167, [79, 112, 76, 111, 103, 105, 99, 97, 108, 65, 110, 100, 32, 84, 82, 32, 105, 105, 32, 32, 32, 56]),
  (168, [79, 112, 76, 111, 103, 105, 99, 97, 108, 78, 111, 116, 32, 84, 82, 32, 105, 32, 32, 32, 56]),
  (169, [79, 112, 83, 101, 108, 101, 99, 116, 32, 84, 82, 32, 105, 105, 105, 32, 32, 32, 56]),
  (170, [79, 112, 73, 69, 113, 117, 97, 108, 32, 84, 82, 32, 105, 105, 32, 32, 32, 56]),
  (171, [79, 112, 73, 78, 111, 116, 69, 113, 117, 97, 108, 32, 84, 82, 32, 105, 105, 32, 32, 32, 56])]
def thirdT : List (Int × Byts) := [(172, [79, 112, 85, 71, 114, 101, 97, 116, 101, 114, 84, 104, 97, 110, 32, 84, 82, 32, 105, 105, 32, 32, 32, 56]),
  (173, [79, 112, 83, 71, 114, 101, 97, 116, 101, 114, 84, 104, 97, 110, 32, 84, 82, 32, 105, 105, 32, 32, 32, 56]),
  (174, [79, 112, 85, 71, 114, 101, 97, 116, 101, 114, 84, 104, 97, 110, 69, 113, 117, 97, 108, 32, 84, 82, 32, 105, 105, 32, 32, 32, 56]),
  (175, [79, 112, 83, 71, 114, 101, 97, 116, 101, 114, 84, 104, 97, 110, 69, 113, 117, 97, 108, 32, 84, 82, 32, 105, 105, 32, 32, 32, 56]),
  (176, [79, 112, 85, 76, 101, 115, 115, 84, 104, 97, 110, 32, 84, 82, 32, 105, 105, 32, 32, 32, 56]),
  (177, [79, 112, 83, 76, 101, 115, 115, 84, 104, 97, 110, 32, 84, 82, 32, 105, 105, 32, 32, 32, 56]),
  (178, [79, 112, 85, 76, 101, 115, 115, 84, 104, 97, 110, 69, 113, 117, 97, 108, 32, 84, 82, 32, 105, 105, 32, 32, 32, 56]),
  (179, [79, 112, 83, 76, 101, 115, 115, 84, 104, 97, 110, 69, 113, 117, 97, 108, 32, 84, 82, 32, 105, 105, 32, 32, 32, 56]),
  (194, [79, 112, 83, 104, 105, 102, 116, 82, 105, 103, 104, 116, 76, 111, 103, 105, 99, 97, 108, 32, 84, 82, 32, 105, 105, 32, 32, 32, 56]),
  (195, [79, 112, 83, 104, 105, 102, 116, 82, 105, 103, 104, 116, 65, 114, 105, 116, 104, 109, 101, 116, 105, 99, 32, 84, 82, 32, 105, 105, 32, 32, 32, 56]),
  (196, [79, 112, 83, 104, 105, 102, 116, 76, 101, 102, 116, 76, 111, 103, 105, 99, 97, 108, 32, 84, 82, 32, 105, 105, 32, 32, 32, 56]),
  (197, [79, 112, 66, 105, 116, 119, 105, 115, 101, 79, 114, 32, 84, 82, 32, 105, 105, 32, 32, 32, 56]),
  (198, [79, 112, 66, 105, 116, 119, 105, 115, 101, 88, 111, 114, 32, 84, 82, 32, 105, 105, 32, 32, 32, 56]),
  (199, [79, 112, 66, 105, 116, 119, 105, 115, 101, 65, 110, 100, 32, 84, 82, 32, 105, 105, 32, 32, 32, 56]),
  (200, [79, 112, 78, 111, 116, 32, 84, 82, 32, 105, 32, 32, 32, 56]),
  (201, [79, 112, 66, 105, 116, 70, 105, 101, 108, 100, 73, 110, 115, 101, 114, 116, 32, 84, 82, 32, 105, 105, 105, 105, 32, 32, 32, 56]),
  (202, [79, 112, 66, 105, 116, 70, 105, 101, 108, 100, 83, 69, 120, 116, 114, 97, 99, 116, 32, 84, 82, 32, 105, 105, 105, 32, 32, 32, 56]),
  (203, [79, 112, 66, 105, 116, 70, 105, 101, 108, 100, 85, 69, 120, 116, 114, 97, 99, 116, 32, 84, 82, 32, 105, 105, 105, 32, 32, 32, 56]),
  (204, [79, 112, 66, 105, 116, 82, 101, 118, 101, 114, 115, 101, 32, 84, 82, 32, 105, 32, 32, 32, 56]),
  (205, [79, 112, 66, 105, 116, 67, 111, 117, 110, 116, 32, 84, 82, 32, 105, 32, 32, 32, 56]),
  (245, [79, 112, 80, 104, 105, 32, 84, 82, 32, 32, 105, 105, 32, 32, 56]),
  (246, [79, 112, 76, 111, 111, 112, 77, 101, 114, 103, 101, 32, 32, 105, 105, 103, 32, 32, 32, 56]),
  (247, [79, 112, 83, 101, 108, 101, 99, 116, 105, 111, 110, 77, 101, 114, 103, 101, 32, 32, 105, 104, 32, 32, 32, 56]),
  (248, [79, 112, 76, 97, 98, 101, 108, 32, 82, 32, 32, 32, 32, 56]),
  (249, [79, 112, 66, 114, 97, 110, 99, 104, 32, 32, 105, 32, 32, 32, 56]),
  (250, [79, 112, 66, 114, 97, 110, 99, 104, 67, 111, 110, 100, 105, 116, 105, 111, 110, 97, 108, 32, 32, 105, 105, 105, 32, 32, 32, 56]),
  (251, [79, 112, 83, 119, 105, 116, 99, 104, 32, 32, 105, 105, 32, 110, 105, 32, 32, 56]),
  (252, [79, 112, 75, 105, 108, 108, 32, 32, 32, 32, 32, 56]),
  (253, [79, 112, 82, 101, 116, 117, 114, 110, 32, 32, 32, 32, 32, 56]),
  (254, [79, 112, 82, 101, 116, 117, 114, 110, 86, 97, 108, 117, 101, 32, 32, 105, 32, 32, 32, 56]),
  (255, [79, 112, 85, 110, 114, 101, 97, 99, 104, 97, 98, 108, 101, 32, 32, 32, 32, 32, 56])]
def namesT : List (Int × Byts) := [(107, [48, 32, 77, 97, 116, 114, 105, 120, 32, 49, 32, 83, 104, 97, 100, 101, 114, 32]),
  (97, [48, 32, 76, 111, 103, 105, 99, 97, 108, 32]),
  (109, [48, 32, 83, 105, 109, 112, 108, 101, 32, 49, 32, 71, 76, 83, 76, 52, 53, 48, 32]),
  (101, [48, 32, 86, 101, 114, 116, 101, 120, 32, 52, 32, 70, 114, 97, 103, 109, 101, 110, 116, 32]),
  (120, [55, 32, 79, 114, 105, 103, 105, 110, 85, 112, 112, 101, 114, 76, 101, 102, 116, 32]),
  (108, [48, 32, 85, 110, 107, 110, 111, 119, 110, 32, 49, 32, 69, 83, 83, 76, 32, 50, 32, 71, 76, 83, 76, 32]),
  (99, [49, 32, 73, 110, 112, 117, 116, 32, 51, 32, 79, 117, 116, 112, 117, 116, 32, 54, 32, 80, 114, 105, 118, 97, 116, 101, 32, 55, 32, 70, 117, 110, 99, 116, 105, 111, 110, 32]),
  (100, [48, 32, 82, 101, 108, 97, 120, 101, 100, 80, 114, 101, 99, 105, 115, 105, 111, 110, 32, 49, 49, 32, 66, 117, 105, 108, 116, 73, 110, 32, 49, 52, 32, 70, 108, 97, 116, 32, 51, 48, 32, 76, 111, 99, 97, 116, 105, 111, 110, 32]),
  (102, [48, 32, 78, 111, 110, 101, 32, 49, 32, 73, 110, 108, 105, 110, 101, 32, 50, 32, 68, 111, 110, 116, 73, 110, 108, 105, 110, 101, 32, 52, 32, 80, 117, 114, 101, 32, 56, 32, 67, 111, 110, 115, 116, 32]),
  (104, [48, 32, 78, 111, 110, 101, 32, 49, 32, 70, 108, 97, 116, 116, 101, 110, 32, 50, 32, 68, 111, 110, 116, 70, 108, 97, 116, 116, 101, 110, 32]),
  (103, [48, 32, 78, 111, 110, 101, 32, 49, 32, 85, 110, 114, 111, 108, 108, 32, 50, 32, 68, 111, 110, 116, 85, 110, 114, 111, 108, 108, 32])]
structure FormL where
  op : Int
  name : Byts
  ty : Bool
  res : Bool
  fixed : Byts
  rest : Byts
  most : Int
  part : Int
  deriving DecidableEq
def refT : List FormL := [⟨1, [79, 112, 85, 110, 100, 101, 102], true, true, [], [], 0, 7⟩,
  ⟨3, [79, 112, 83, 111, 117, 114, 99, 101], false, false, [108, 110], [], 0, 4⟩,
  ⟨5, [79, 112, 78, 97, 109, 101], false, false, [105, 115], [], 0, 5⟩,
  ⟨6, [79, 112, 77, 101, 109, 98, 101, 114, 78, 97, 109, 101], false, false, [105, 110, 115], [], 0, 5⟩,
  ⟨7, [79, 112, 83, 116, 114, 105, 110, 103], false, true, [115], [], 0, 4⟩,
  ⟨14, [79, 112, 77, 101, 109, 111, 114, 121, 77, 111, 100, 101, 108], false, false, [97, 109], [], 0, 1⟩,
  ⟨15, [79, 112, 69, 110, 116, 114, 121, 80, 111, 105, 110, 116], false, false, [101, 105, 115], [105], 0, 2⟩,
  ⟨16, [79, 112, 69, 120, 101, 99, 117, 116, 105, 111, 110, 77, 111, 100, 101], false, false, [105, 120], [], 0, 3⟩,
  ⟨17, [79, 112, 67, 97, 112, 97, 98, 105, 108, 105, 116, 121], false, false, [107], [], 0, 0⟩,
  ⟨19, [79, 112, 84, 121, 112, 101, 86, 111, 105, 100], false, true, [], [], 0, 7⟩,
  ⟨20, [79, 112, 84, 121, 112, 101, 66, 111, 111, 108], false, true, [], [], 0, 7⟩,
  ⟨21, [79, 112, 84, 121, 112, 101, 73, 110, 116], false, true, [110, 110], [], 0, 7⟩,
  ⟨23, [79, 112, 84, 121, 112, 101, 86, 101, 99, 116, 111, 114], false, true, [105, 110], [], 0, 7⟩,
  ⟨28, [79, 112, 84, 121, 112, 101, 65, 114, 114, 97, 121], false, true, [105, 105], [], 0, 7⟩,
  ⟨30, [79, 112, 84, 121, 112, 101, 83, 116, 114, 117, 99, 116], false, true, [], [105], 0, 7⟩,
  ⟨32, [79, 112, 84, 121, 112, 101, 80, 111, 105, 110, 116, 101, 114], false, true, [99, 105], [], 0, 7⟩,
  ⟨33, [79, 112, 84, 121, 112, 101, 70, 117, 110, 99, 116, 105, 111, 110], false, true, [105], [105], 0, 7⟩,
  ⟨41, [79, 112, 67, 111, 110, 115, 116, 97, 110, 116, 84, 114, 117, 101], true, true, [], [], 0, 7⟩,
  ⟨42, [79, 112, 67, 111, 110, 115, 116, 97, 110, 116, 70, 97, 108, 115, 101], true, true, [], [], 0, 7⟩,
  ⟨43, [79, 112, 67, 111, 110, 115, 116, 97, 110, 116], true, true, [110], [], 0, 7⟩,
  ⟨44, [79, 112, 67, 111, 110, 115, 116, 97, 110, 116, 67, 111, 109, 112, 111, 115, 105, 116, 101], true, true, [], [105], 0, 7⟩,
  ⟨46, [79, 112, 67, 111, 110, 115, 116, 97, 110, 116, 78, 117, 108, 108], true, true, [], [], 0, 7⟩,
  ⟨54, [79, 112, 70, 117, 110, 99, 116, 105, 111, 110], true, true, [102, 105], [], 0, 8⟩,
  ⟨55, [79, 112, 70, 117, 110, 99, 116, 105, 111, 110, 80, 97, 114, 97, 109, 101, 116, 101, 114], true, true, [], [], 0, 8⟩,
  ⟨56, [79, 112, 70, 117, 110, 99, 116, 105, 111, 110, 69, 110, 100], false, false, [], [], 0, 8⟩,
  ⟨57, [79, 112, 70, 117, 110, 99, 116, 105, 111, 110, 67, 97, 108, 108], true, true, [105], [105], 0, 8⟩,
  ⟨59, [79, 112, 86, 97, 114, 105, 97, 98, 108, 101], true, true, [99], [105], 1, 7⟩,
  ⟨61, [79, 112, 76, 111, 97, 100], true, true, [105], [], 0, 8⟩,
  ⟨62, [79, 112, 83, 116, 111, 114, 101], false, false, [105, 105], [], 0, 8⟩,
  ⟨65, [79, 112, 65, 99, 99, 101, 115, 115, 67, 104, 97, 105, 110], true, true, [105], [105], 0, 8⟩,
  ⟨71, [79, 112, 68, 101, 99, 111, 114, 97, 116, 101], false, false, [105, 100], [110], 0, 6⟩,
  ⟨77, [79, 112, 86, 101, 99, 116, 111, 114, 69, 120, 116, 114, 97, 99, 116, 68, 121, 110, 97, 109, 105, 99], true, true, [105, 105], [], 0, 8⟩,
  ⟨78, [79, 112, 86, 101, 99, 116, 111, 114, 73, 110, 115, 101, 114, 116, 68, 121, 110, 97, 109, 105, 99], true, true, [105, 105, 105], [], 0, 8⟩,
  ⟨79, [79, 112, 86, 101, 99, 116, 111, 114, 83, 104, 117, 102, 102, 108, 101], true, true, [105, 105], [110], 0, 8⟩,
  ⟨80, [79, 112, 67, 111, 109, 112, 111, 115, 105, 116, 101, 67, 111, 110, 115, 116, 114, 117, 99, 116], true, true, [], [105], 0, 8⟩,
  ⟨81, [79, 112, 67, 111, 109, 112, 111, 115, 105, 116, 101, 69, 120, 116, 114, 97, 99, 116], true, true, [105], [110], 0, 8⟩,
  ⟨82, [79, 112, 67, 111, 109, 112, 111, 115, 105, 116, 101, 73, 110, 115, 101, 114, 116], true, true, [105, 105], [110], 0, 8⟩,
  ⟨83, [79, 112, 67, 111, 112, 121, 79, 98, 106, 101, 99, 116], true, true, [105], [], 0, 8⟩,
  ⟨124, [79, 112, 66, 105, 116, 99, 97, 115, 116], true, true, [105], [], 0, 8⟩,
  ⟨126, [79, 112, 83, 78, 101, 103, 97, 116, 101], true, true, [105], [], 0, 8⟩,
  ⟨128, [79, 112, 73, 65, 100, 100], true, true, [105, 105], [], 0, 8⟩,
  ⟨130, [79, 112, 73, 83, 117, 98], true, true, [105, 105], [], 0, 8⟩,
  ⟨132, [79, 112, 73, 77, 117, 108], true, true, [105, 105], [], 0, 8⟩,
  ⟨134, [79, 112, 85, 68, 105, 118], true, true, [105, 105], [], 0, 8⟩,
  ⟨135, [79, 112, 83, 68, 105, 118], true, true, [105, 105], [], 0, 8⟩,
  ⟨137, [79, 112, 85, 77, 111, 100], true, true, [105, 105], [], 0, 8⟩,
  ⟨138, [79, 112, 83, 82, 101, 109], true, true, [105, 105], [], 0, 8⟩,
  ⟨139, [79, 112, 83, 77, 111, 100], true, true, [105, 105], [], 0, 8⟩,
  ⟨149, [79, 112, 73, 65, 100, 100, 67, 97, 114, 114, 121], true, true, [105, 105], [], 0, 8⟩,
  ⟨150, [79, 112, 73, 83, 117, 98, 66, 111, 114, 114, 111, 119], true, true, [105, 105], [], 0, 8⟩,
  ⟨151, [79, 112, 85, 77, 117, 108, 69, 120, 116, 101, 110, 100, 101, 100], true, true, [105, 105], [], 0, 8⟩,
  ⟨152, [79, 112, 83, 77, 117, 108, 69, 120, 116, 101, 110, 100, 101, 100], true, true, [105, 105], [], 0, 8⟩,
  ⟨154, [79, 112, 65, 110, 121], true, true, [105], [], 0, 8⟩,
  ⟨155, [79, 112, 65, 108, 108], true, true, [105], [], 0, 8⟩,
  ⟨164, [79, 112, 76, 111, 103, 105, 99, 97, 108, 69, 113, 117, 97, 108], true, true, [105, 105], [], 0, 8⟩,
  ⟨165, [79, 112, 76, 111, 103, 105, 99, 97, 108, 78, 111, 116, 69, 113, 117, 97, 108], true, true, [105, 105], [], 0, 8⟩,
  ⟨166, [79, 112, 76, 111, 103, 105, 99, 97, 108, 79, 114], true, true, [105, 105], [], 0, 8⟩,
  ⟨167, [79, 112, 76, 111, 103, 105, 99, 97, 108, 65, 110, 100], true, true, [105, 105], [], 0, 8⟩,
  ⟨168, [79, 112, 76, 111, 103, 105, 99, 97, 108, 78, 111, 116], true, true, [105], [], 0, 8⟩,
  ⟨169, [79, 112, 83, 101, 108, 101, 99, 116], true, true, [105, 105, 105], [], 0, 8⟩,
  ⟨170, [79, 112, 73, 69, 113, 117, 97, 108], true, true, [105, 105], [], 0, 8⟩,
  ⟨171, [79, 112, 73, 78, 111, 116, 69, 113, 117, 97, 108], true, true, [105, 105], [], 0, 8⟩,
  ⟨172, [79, 112, 85, 71, 114, 101, 97, 116, 101, 114, 84, 104, 97, 110], true, true, [105, 105], [], 0, 8⟩,
  ⟨173, [79, 112, 83, 71, 114, 101, 97, 116, 101, 114, 84, 104, 97, 110], true, true, [105, 105], [], 0, 8⟩,
  ⟨174, [79, 112, 85, 71, 114, 101, 97, 116, 101, 114, 84, 104, 97, 110, 69, 113, 117, 97, 108], true, true, [105, 105], [], 0, 8⟩,
  ⟨175, [79, 112, 83, 71, 114, 101, 97, 116, 101, 114, 84, 104, 97, 110, 69, 113, 117, 97, 108], true, true, [105, 105], [], 0, 8⟩,
  ⟨176, [79, 112, 85, 76, 101, 115, 115, 84, 104, 97, 110], true, true, [105, 105], [], 0, 8⟩,
  ⟨177, [79, 112, 83, 76, 101, 115, 115, 84, 104, 97, 110], true, true, [105, 105], [], 0, 8⟩,
  ⟨178, [79, 112, 85, 76, 101, 115, 115, 84, 104, 97, 110, 69, 113, 117, 97, 108], true, true, [105, 105], [], 0, 8⟩,
  ⟨179, [79, 112, 83, 76, 101, 115, 115, 84, 104, 97, 110, 69, 113, 117, 97, 108], true, true, [105, 105], [], 0, 8⟩,
  ⟨194, [79, 112, 83, 104, 105, 102, 116, 82, 105, 103, 104, 116, 76, 111, 103, 105, 99, 97, 108], true, true, [105, 105], [], 0, 8⟩,
  ⟨195, [79, 112, 83, 104, 105, 102, 116, 82, 105, 103, 104, 116, 65, 114, 105, 116, 104, 109, 101, 116, 105, 99], true, true, [105, 105], [], 0, 8⟩,
  ⟨196, [79, 112, 83, 104, 105, 102, 116, 76, 101, 102, 116, 76, 111, 103, 105, 99, 97, 108], true, true, [105, 105], [], 0, 8⟩,
  ⟨197, [79, 112, 66, 105, 116, 119, 105, 115, 101, 79, 114], true, true, [105, 105], [], 0, 8⟩,
  ⟨198, [79, 112, 66, 105, 116, 119, 105, 115, 101, 88, 111, 114], true, true, [105, 105], [], 0, 8⟩,
  ⟨199, [79, 112, 66, 105, 116, 119, 105, 115, 101, 65, 110, 100], true, true, [105, 105], [], 0, 8⟩,
  ⟨200, [79, 112, 78, 111, 116], true, true, [105], [], 0, 8⟩,
  ⟨201, [79, 112, 66, 105, 116, 70, 105, 101, 108, 100, 73, 110, 115, 101, 114, 116], true, true, [105, 105, 105, 105], [], 0, 8⟩,
  ⟨202, [79, 112, 66, 105, 116, 70, 105, 101, 108, 100, 83, 69, 120, 116, 114, 97, 99, 116], true, true, [105, 105, 105], [], 0, 8⟩,
  ⟨203, [79, 112, 66, 105, 116, 70, 105, 101, 108, 100, 85, 69, 120, 116, 114, 97, 99, 116], true, true, [105, 105, 105], [], 0, 8⟩,
  ⟨204, [79, 112, 66, 105, 116, 82, 101, 118, 101, 114, 115, 101], true, true, [105], [], 0, 8⟩,
  ⟨205, [79, 112, 66, 105, 116, 67, 111, 117, 110, 116], true, true, [105], [], 0, 8⟩,
  ⟨245, [79, 112, 80, 104, 105], true, true, [], [105, 105], 0, 8⟩,
  ⟨246, [79, 112, 76, 111, 111, 112, 77, 101, 114, 103, 101], false, false, [105, 105, 103], [], 0, 8⟩,
  ⟨247, [79, 112, 83, 101, 108, 101, 99, 116, 105, 111, 110, 77, 101, 114, 103, 101], false, false, [105, 104], [], 0, 8⟩,
  ⟨248, [79, 112, 76, 97, 98, 101, 108], false, true, [], [], 0, 8⟩,
  ⟨249, [79, 112, 66, 114, 97, 110, 99, 104], false, false, [105], [], 0, 8⟩,
  ⟨250, [79, 112, 66, 114, 97, 110, 99, 104, 67, 111, 110, 100, 105, 116, 105, 111, 110, 97, 108], false, false, [105, 105, 105], [], 0, 8⟩,
  ⟨251, [79, 112, 83, 119, 105, 116, 99, 104], false, false, [105, 105], [110, 105], 0, 8⟩,
  ⟨252, [79, 112, 75, 105, 108, 108], false, false, [], [], 0, 8⟩,
  ⟨253, [79, 112, 82, 101, 116, 117, 114, 110], false, false, [], [], 0, 8⟩,
  ⟨254, [79, 112, 82, 101, 116, 117, 114, 110, 86, 97, 108, 117, 101], false, false, [105], [], 0, 8⟩,
  ⟨255, [79, 112, 85, 110, 114, 101, 97, 99, 104, 97, 98, 108, 101], false, false, [], [], 0, 8⟩]
structure NameL where
  letter : Int
  n : Int
  name : Byts
  deriving DecidableEq
def namesL : List NameL := [⟨107, 0, [77, 97, 116, 114, 105, 120]⟩,
  ⟨107, 1, [83, 104, 97, 100, 101, 114]⟩,
  ⟨97, 0, [76, 111, 103, 105, 99, 97, 108]⟩,
  ⟨109, 0, [83, 105, 109, 112, 108, 101]⟩,
  ⟨109, 1, [71, 76, 83, 76, 52, 53, 48]⟩,
  ⟨101, 0, [86, 101, 114, 116, 101, 120]⟩,
  ⟨101, 4, [70, 114, 97, 103, 109, 101, 110, 116]⟩,
  ⟨120, 7, [79, 114, 105, 103, 105, 110, 85, 112, 112, 101, 114, 76, 101, 102, 116]⟩,
  ⟨108, 0, [85, 110, 107, 110, 111, 119, 110]⟩,
  ⟨108, 1, [69, 83, 83, 76]⟩,
  ⟨108, 2, [71, 76, 83, 76]⟩,
  ⟨99, 1, [73, 110, 112, 117, 116]⟩,
  ⟨99, 3, [79, 117, 116, 112, 117, 116]⟩,
  ⟨99, 6, [80, 114, 105, 118, 97, 116, 101]⟩,
  ⟨99, 7, [70, 117, 110, 99, 116, 105, 111, 110]⟩,
  ⟨100, 0, [82, 101, 108, 97, 120, 101, 100, 80, 114, 101, 99, 105, 115, 105, 111, 110]⟩,
  ⟨100, 11, [66, 117, 105, 108, 116, 73, 110]⟩,
  ⟨100, 14, [70, 108, 97, 116]⟩,
  ⟨100, 30, [76, 111, 99, 97, 116, 105, 111, 110]⟩,
  ⟨102, 0, [78, 111, 110, 101]⟩,
  ⟨102, 1, [73, 110, 108, 105, 110, 101]⟩,
  ⟨102, 2, [68, 111, 110, 116, 73, 110, 108, 105, 110, 101]⟩,
  ⟨102, 4, [80, 117, 114, 101]⟩,
  ⟨102, 8, [67, 111, 110, 115, 116]⟩,
  ⟨104, 0, [78, 111, 110, 101]⟩,
  ⟨104, 1, [70, 108, 97, 116, 116, 101, 110]⟩,
  ⟨104, 2, [68, 111, 110, 116, 70, 108, 97, 116, 116, 101, 110]⟩,
  ⟨103, 0, [78, 111, 110, 101]⟩,
  ⟨103, 1, [85, 110, 114, 111, 108, 108]⟩,
  ⟨103, 2, [68, 111, 110, 116, 85, 110, 114, 111, 108, 108]⟩]
def look (T : List (Int × Byts)) (n : Int) : Byts := match T with
  | [] => []
  | p :: T => if n = p.1 then p.2 else look T n
theorem look_none {n : Int} : ∀ {T : List (Int × Byts)}, (∀ p ∈ T, ¬ n = p.1) → look T n = []
  | [], _ => rfl
  | p :: T, h => by rw [look, if_neg (h p (.head _)), look_none fun q hq => h q (.tail _ hq)]
def rowS (op : Int) : Byts := if op ≤ 71 then look firstT op else if op ≤ 171 then look secondT op else look thirdT op
def refF (op : Int) : List FormL → Option FormL
  | [] => none
  | f :: T => if op = f.op then some f else refF op T
def refS (op : Int) : Option FormL := refF op refT
theorem refF_none {op : Int} : ∀ {T : List FormL}, (∀ f ∈ T, ¬ op = f.op) → refF op T = none
  | [], _ => rfl
  | f :: T, h => by rw [refF, if_neg (h f (.head _)), refF_none fun q hq => h q (.tail _ hq)]
theorem refF_mem {op : Int} {f : FormL} : ∀ {T : List FormL}, refF op T = some f → f ∈ T ∧ f.op = op
  | [], h => by cases h
  | g :: T, h => by
    rw [refF] at h
    split at h
    · cases h; exact ⟨.head _, by assumption |> Eq.symm⟩
    · have := refF_mem h; exact ⟨.tail _ this.1, this.2⟩
def zeroF : FormL := ⟨0, [], false, false, [], [], 0, 0⟩
abbrev formC (f : FormL) : List Value := [.int .u16 f.op, str f.name, .bool f.ty, .bool f.res, str f.fixed, str f.rest, .int .i64 f.most, .int .u8 f.part]
abbrev formV (o : Option FormL) : Value := .tuple #[.agg (formC (o.getD zeroF)).toArray, .bool o.isSome]
def stepF (st : Nat × List Byts) (c : UInt8) : Nat × List Byts := if c = 32 then (st.1 + 1, st.2) else (st.1, st.2.modify st.1 (· ++ [c]))
def fieldsF (s : Byts) : Nat × List Byts := s.foldl stepF (0, [[], [], [], [], [], []])
def fieldsS (s : Byts) : List Byts := (fieldsF s).2
theorem take_succ {s : Byts} {i : Nat} (h : i < s.length) : s.take (i + 1) = s.take i ++ [s[i]] := by rw [List.take_succ_eq_append_getElem h]
theorem fieldsF_step {s : Byts} {i : Nat} (h : i < s.length) : fieldsF (s.take (i + 1)) = stepF (fieldsF (s.take i)) s[i] := by
  unfold fieldsF; rw [take_succ h, List.foldl_append]; rfl
theorem foldl_stepF : ∀ (s : Byts) (st : Nat × List Byts), st.1 ≤ (s.foldl stepF st).1 ∧ (s.foldl stepF st).2.length = st.2.length
  | [], st => ⟨Nat.le_refl _, rfl⟩
  | c :: s, st => by
    have h := foldl_stepF s (stepF st c)
    rw [List.foldl_cons]
    have e : st.1 ≤ (stepF st c).1 ∧ (stepF st c).2.length = st.2.length := by
      unfold stepF; split
      · exact ⟨by simp, rfl⟩
      · exact ⟨Nat.le_refl _, by simp⟩
    exact ⟨Nat.le_trans e.1 h.1, h.2.trans e.2⟩
theorem fieldsF_len (s : Byts) : (fieldsF s).2.length = 6 := (foldl_stepF s _).2
theorem fieldsF_at {s : Byts} {i : Nat} : (fieldsF (s.take i)).1 ≤ (fieldsF s).1 := by
  have : fieldsF s = (s.drop i).foldl stepF (fieldsF (s.take i)) := by
    unfold fieldsF; rw [← List.foldl_append, List.take_append_drop]
  rw [this]; exact (foldl_stepF _ _).1
theorem fieldsF_short (s : Byts) : ∀ i, i ≤ s.length → ∀ f ∈ (fieldsF (s.take i)).2, f.length ≤ i
  | 0, _ => by simp [fieldsF]
  | i + 1, h => by
    rw [fieldsF_step (by omega)]
    have ih := fieldsF_short s i (by omega)
    intro f hf
    unfold stepF at hf
    split at hf
    · have := ih f hf; omega
    · obtain ⟨j, hj, rfl⟩ := List.getElem_of_mem hf
      simp only [List.length_modify] at hj
      rw [List.getElem_modify]
      have := ih _ (List.getElem_mem hj)
      split <;> simp <;> omega
def rowOk (s : Byts) : Bool := s.all (fun c => c.toNat < 128) && decide ((fieldsF s).1 ≤ 5) && decide (s.length ≤ 100) && (fieldsS s).all (fun f => f.all fun c => c.toNat < 128) && (s == [] || !((fieldsS s).getD 5 []).isEmpty)
def subU8 (c : UInt8) (n : Int) : Int := IntKind.u8.wrap ((c.toNat : Int) - n)
def ofS (op : Int) : Option FormL :=
  if rowS op = [] then none
  else some ⟨op, (fieldsS (rowS op)).getD 0 [], ((fieldsS (rowS op)).getD 1 []).contains 84, ((fieldsS (rowS op)).getD 1 []).contains 82, (fieldsS (rowS op)).getD 2 [], (fieldsS (rowS op)).getD 3 [],
    (if (fieldsS (rowS op)).getD 4 [] = [] then 0 else subU8 (((fieldsS (rowS op)).getD 4 []).getD 0 0) 48), subU8 (((fieldsS (rowS op)).getD 5 []).getD 0 0) 48⟩
theorem rows_small : (List.range 256).all (fun n => rowOk (rowS n) && decide (ofS n = refS n)) = true := by decide +kernel
theorem thirdT_small : thirdT.all (fun p => decide (p.1 ≤ 255)) = true := by decide +kernel
theorem refT_small : refT.all (fun f => decide (0 ≤ f.op ∧ f.op ≤ 255)) = true := by decide +kernel
theorem rowS_big {op : Int} (h : 255 < op) : rowS op = [] := by
  unfold rowS
  rw [if_neg (by omega), if_neg (by omega)]
  refine look_none fun p hp e => ?_
  have := List.all_eq_true.1 thirdT_small p hp
  simp only [decide_eq_true_eq] at this
  omega
theorem refS_big {op : Int} (h : 255 < op) : refS op = none := refF_none fun f hf e => by
  have := List.all_eq_true.1 refT_small f hf
  simp only [decide_eq_true_eq] at this
  omega
theorem rowS_all {op : Int} (h : 0 ≤ op) : rowOk (rowS op) = true ∧ ofS op = refS op := by
  by_cases hb : 255 < op
  · have e : ofS op = none := by unfold ofS; rw [if_pos (rowS_big hb)]
    rw [rowS_big hb, refS_big hb, e]; exact ⟨by decide +kernel, rfl⟩
  · have := List.all_eq_true.1 rows_small op.toNat (List.mem_range.2 (by omega))
    simp only [Bool.and_eq_true, decide_eq_true_eq] at this
    rw [show ((op.toNat : Nat) : Int) = op by omega] at this
    exact this
theorem rowOk_spec {s : Byts} (h : rowOk s = true) : (∀ c ∈ s, c.toNat < 128) ∧ (fieldsF s).1 ≤ 5 ∧ s.length ≤ 100 ∧ (∀ f ∈ fieldsS s, ∀ c ∈ f, c.toNat < 128) ∧ (s = [] ∨ (fieldsS s).getD 5 [] ≠ []) := by
  simp only [rowOk, Bool.and_eq_true, List.all_eq_true, decide_eq_true_eq, Bool.or_eq_true, beq_iff_eq, Bool.not_eq_true', List.isEmpty_eq_false_iff] at h
  exact ⟨h.1.1.1.1, h.1.1.1.2, h.1.1.2, h.1.2, h.2⟩
theorem refS_op {op : Int} {f : FormL} (h : refS op = some f) : f.op = op := (refF_mem h).2
def formOk (f : FormL) : Bool := decide (0 ≤ f.op ∧ f.op ≤ 255) && decide (0 ≤ f.most ∧ f.most ≤ 9) && decide (f.fixed.length ≤ 40) && decide (f.rest.length ≤ 40) && decide (f.name.length ≤ 100) && decide (0 ≤ f.part ∧ f.part ≤ 9) && f.fixed.all (· != 0) && f.rest.all (· != 0)
theorem refT_ok : refT.all formOk = true := by decide +kernel
theorem refS_ok {op : Int} {f : FormL} (h : refS op = some f) : formOk f = true := List.all_eq_true.1 refT_ok f (refF_mem h).1
theorem getD_short {l : List Byts} {n i : Nat} (h : ∀ f ∈ l, f.length ≤ n) : (l.getD i []).length ≤ n := by
  by_cases hi : i < l.length
  · simp only [List.getD, List.getElem?_eq_getElem hi, Option.getD_some]; exact h _ (List.getElem_mem hi)
  · simp [List.getD, List.getElem?_eq_none (Nat.le_of_not_lt hi)]
theorem has_step {l : Byts} {i : Nat} (x : UInt8) {m : Int} (hm : ((x.toNat : Nat) : Int) = m) (h : i < l.length) : (l.take (i + 1)).contains x = ((l.take i).contains x || decide ((l[i].toNat : Int) = m)) := by
  subst hm
  rw [take_succ h, List.contains_eq_any_beq, List.any_append, ← List.contains_eq_any_beq]
  congr 1
  simp only [List.any_cons, List.any_nil, Bool.or_false]
  by_cases e : x = l[i]
  · rw [e]; simp
  · rw [show (x == l[i]) = false from beq_eq_false_iff_ne.2 e]
    symm
    rw [decide_eq_false_iff_not]
    intro he
    exact e (UInt8.toNat_inj.1 (by omega))
theorem u8wrap_bd (n : Int) : 0 ≤ IntKind.u8.wrap n ∧ IntKind.u8.wrap n ≤ 255 := by simp [IntKind.wrap, IntKind.bits, IntKind.signed]; omega
def numStep (n : Int) (c : UInt8) : Int := IntKind.u32.wrap (IntKind.u32.wrap (10 * n) + IntKind.u32.wrap ((c.toNat : Int) - 48))
def numF (s : Byts) : Int := s.foldl numStep 0
theorem numF_step {s : Byts} {i : Nat} (h : i < s.length) : numF (s.take (i + 1)) = numStep (numF (s.take i)) s[i] := by
  unfold numF; rw [take_succ h, List.foldl_append]; rfl
theorem find_hit {α : Type} {p : α → Bool} {l : List α} {i : Nat} {d : α} {R : Option α} (h : (l.drop i).find? p = R) (hi : i < l.length) (hp : p (l.getD i d) = true) : R = some (l.getD i d) := by
  rw [List.drop_eq_getElem_cons hi] at h
  simp only [List.getD, List.getElem?_eq_getElem hi, Option.getD_some] at hp ⊢
  rw [List.find?_cons_of_pos hp] at h
  exact h.symm
theorem find_miss {α : Type} {p : α → Bool} {l : List α} {i : Nat} {d : α} {R : Option α} (h : (l.drop i).find? p = R) (hi : i < l.length) (hp : p (l.getD i d) = false) : (l.drop (i + 1)).find? p = R := by
  rw [List.drop_eq_getElem_cons hi] at h
  simp only [List.getD, List.getElem?_eq_getElem hi, Option.getD_some] at hp
  rwa [List.find?_cons_of_neg (by simp [hp])] at h
theorem find_end {α : Type} {p : α → Bool} {l : List α} {i : Nat} {R : Option α} (h : (l.drop i).find? p = R) (hi : l.length ≤ i) : R = none := by
  rw [List.drop_eq_nil_of_le hi] at h; exact h.symm
def zeroN : NameL := ⟨0, 0, []⟩
abbrev nameC (n : NameL) : List Value := [.int .u8 n.letter, .int .u32 n.n, str n.name]
theorem nameC_len (n : NameL) : (nameC n).length = 3 := rfl
abbrev enN (c n : Int) (x : NameL) : Bool := decide (x.letter = c ∧ x.n = n)
abbrev nameV (o : Option NameL) : Value := .tuple #[str (o.getD zeroN).name, .bool o.isSome]
def enumsL (c : Int) : List NameL := namesL.filter fun x => decide (x.letter = c)
structure EnSt where
  n : Int
  word : Byts
  num : Bool
  out : List (Int × Byts)
def enStep (st : EnSt) (c : UInt8) : EnSt :=
  if c ≠ 32 then ⟨st.n, st.word ++ [c], st.num, st.out⟩
  else if st.num then ⟨st.n, [], false, st.out ++ [(st.n, st.word)]⟩ else ⟨numF st.word, [], true, st.out⟩
def enF (s : Byts) : EnSt := s.foldl enStep ⟨0, [], false, []⟩
theorem enF_step {s : Byts} {i : Nat} (h : i < s.length) : enF (s.take (i + 1)) = enStep (enF (s.take i)) s[i] := by
  unfold enF; rw [take_succ h, List.foldl_append]; rfl
theorem enF_inv (s : Byts) (hs : ∀ c ∈ s, c.toNat < 128) : ∀ i, i ≤ s.length → (enF (s.take i)).word.length ≤ i ∧ ∀ c ∈ (enF (s.take i)).word, c.toNat < 128
  | 0, _ => by simp [enF]
  | i + 1, h => by
    have ih := enF_inv s hs i (by omega)
    rw [enF_step (by omega)]
    unfold enStep
    split
    · refine ⟨by simp; omega, fun c hc => ?_⟩
      rcases List.mem_append.1 hc with hc | hc
      · exact ih.2 c hc
      · rw [List.mem_singleton.1 hc]; exact hs _ (List.getElem_mem _)
    · split <;> exact ⟨by simp, by simp⟩
theorem foldl_enStep : ∀ (s : Byts) (st : EnSt), ∃ t, (s.foldl enStep st).out = st.out ++ t
  | [], st => ⟨[], by simp⟩
  | c :: s, st => by
    obtain ⟨t, ht⟩ := foldl_enStep s (enStep st c)
    rw [List.foldl_cons, ht]
    unfold enStep
    split
    · exact ⟨t, rfl⟩
    · split
      · exact ⟨(st.n, st.word) :: t, by simp⟩
      · exact ⟨t, rfl⟩
theorem enF_out (s : Byts) (i : Nat) : ∃ t, (enF s).out = (enF (s.take i)).out ++ t := by
  have : enF s = (s.drop i).foldl enStep (enF (s.take i)) := by
    unfold enF; rw [← List.foldl_append, List.take_append_drop]
  rw [this]; exact foldl_enStep _ _
theorem enF_told {s : Byts} {l : List (Int × Byts)} (hl : (enF s).out = l) {i : Nat} (h : i < s.length) (hc : s[i] = 32) (hn : (enF (s.take i)).num = true) :
    (enF (s.take i)).out.length < l.length ∧ l.getD (enF (s.take i)).out.length (0, []) = ((enF (s.take i)).n, (enF (s.take i)).word) := by
  obtain ⟨t, ht⟩ := enF_out s (i + 1)
  rw [enF_step h] at ht
  have e : (enStep (enF (s.take i)) s[i]).out = (enF (s.take i)).out ++ [((enF (s.take i)).n, (enF (s.take i)).word)] := by
    unfold enStep; rw [if_neg (by simp [hc]), if_pos hn]
  rw [e, List.append_assoc] at ht
  subst hl
  rw [ht]
  refine ⟨by simp, ?_⟩
  simp [List.getD]
def namesOk (s : Byts) : Bool := s.all (fun c => c.toNat < 128) && decide (s.length ≤ 100)
theorem names_small : (List.range 256).all (fun n => namesOk (look namesT n) && decide ((enF (look namesT n)).out = (enumsL n).map fun x => (x.n, x.name))) = true := by decide +kernel
theorem names_all {c : Int} (h0 : 0 ≤ c) (h1 : c ≤ 255) : (∀ x ∈ look namesT c, x.toNat < 128) ∧ (look namesT c).length ≤ 100 ∧ (enF (look namesT c)).out = (enumsL c).map fun x => (x.n, x.name) := by
  have := List.all_eq_true.1 names_small c.toNat (List.mem_range.2 (by omega))
  rw [show ((c.toNat : Nat) : Int) = c by omega] at this
  simp only [namesOk, Bool.and_eq_true, List.all_eq_true, decide_eq_true_eq] at this
  exact ⟨this.1.1, this.1.2, this.2⟩
theorem enums_find {c n : Int} : (enumsL c).find? (fun x => decide (x.n = n)) = namesL.find? (enN c n) := by
  unfold enumsL; rw [List.find?_filter]; congr 1; funext x
  simp [enN]
theorem map_getD {α β : Type} {l : List α} {f : α → β} {k : Nat} {d : α} {d' : β} (hk : k < l.length) : (l.map f).getD k d' = f (l.getD k d) := by
  simp [List.getD, hk]
abbrev nmF (q : Byts) (f : FormL) : Bool := decide (f.name = q)
def kindS (c : Int) : Int := if c = 105 then 1 else if c = 110 then 2 else if c = 115 then 3 else if look namesT c ≠ [] then 4 else 0
theorem names_any_small : (List.range 256).all (fun n => decide ((look namesT n ≠ []) ↔ (namesL.find? (fun x => decide (x.letter = (n : Int)))).isSome = true)) = true := by decide +kernel
theorem names_any {c : Int} (h0 : 0 ≤ c) (h1 : c ≤ 255) : (look namesT c ≠ []) ↔ (namesL.find? (fun x => decide (x.letter = c))).isSome = true := by
  have := List.all_eq_true.1 names_any_small c.toNat (List.mem_range.2 (by omega))
  rw [show ((c.toNat : Nat) : Int) = c by omega] at this
  simpa only [decide_eq_true_eq] using this
theorem refD_ok (op : Int) : formOk ((refS op).getD zeroF) = true := by
  cases h : refS op with
  | none => decide +kernel
  | some f => exact refS_ok h
structure FOk (f : FormL) : Prop where
  op : 0 ≤ f.op ∧ f.op ≤ 255
  most : 0 ≤ f.most ∧ f.most ≤ 9
  fixed : f.fixed.length ≤ 40
  rest : f.rest.length ≤ 40
  name : f.name.length ≤ 100
  part : 0 ≤ f.part ∧ f.part ≤ 9
  fix0 : ∀ c ∈ f.fixed, c ≠ 0
  rest0 : ∀ c ∈ f.rest, c ≠ 0
theorem FOk.of {f : FormL} (h : formOk f = true) : FOk f := by
  simp only [formOk, Bool.and_eq_true, decide_eq_true_eq, List.all_eq_true, bne_iff_ne] at h
  obtain ⟨⟨⟨⟨⟨⟨⟨h1, h2⟩, h3⟩, h4⟩, h5⟩, h6⟩, h7⟩, h8⟩ := h
  exact ⟨h1, h2, h3, h4, h5, h6, h7, h8⟩
abbrev refD (op : Int) : FormL := (refS op).getD zeroF
theorem refD_fok (op : Int) : FOk (refD op) := FOk.of (refD_ok op)
def fixS (f : FormL) (i : Int) : Int := if i < 0 ∨ (f.fixed.length : Int) ≤ i then 0 else ((f.fixed.getD i.toNat 0).toNat : Int)
def restS (f : FormL) (i : Int) : Int :=
  if i - f.fixed.length < 0 ∨ f.rest = [] ∨ (0 < f.most ∧ f.most * f.rest.length ≤ i - f.fixed.length) then 0
  else ((f.rest.getD ((i - f.fixed.length) % f.rest.length).toNat 0).toNat : Int)
def letterS (f : FormL) (i : Int) : Int := if i < 0 then 0 else if i < f.fixed.length then ((f.fixed.getD i.toNat 0).toNat : Int) else restS f i
theorem fix_ne {f : FormL} (hf : FOk f) {i : Int} (h0 : 0 ≤ i) (h1 : i < f.fixed.length) : fixS f i = ((f.fixed.getD i.toNat 0).toNat : Int) ∧ fixS f i ≠ 0 := by
  have e : fixS f i = ((f.fixed.getD i.toNat 0).toNat : Int) := by unfold fixS; rw [if_neg (by omega)]
  refine ⟨e, ?_⟩
  rw [e]
  have hi : i.toNat < f.fixed.length := by omega
  have hc := hf.fix0 _ (List.getElem_mem hi)
  simp only [List.getD, List.getElem?_eq_getElem hi, Option.getD_some]
  intro h
  exact hc (UInt8.toNat_inj.1 (by simpa using (by omega : f.fixed[i.toNat].toNat = 0)))
theorem letter_fix {f : FormL} (hf : FOk f) {i : Int} (h0 : 0 ≤ i) (h : ¬ fixS f i = 0) : letterS f i = fixS f i := by
  have h1 : i < f.fixed.length := by
    refine Classical.byContradiction fun hn => h ?_
    unfold fixS; rw [if_pos (by omega)]
  rw [(fix_ne hf h0 h1).1]; unfold letterS; rw [if_neg (by omega), if_pos h1]
theorem letter_rest {f : FormL} (hf : FOk f) {i : Int} (h0 : 0 ≤ i) (h : fixS f i = 0) : letterS f i = restS f i := by
  have h1 : ¬ i < f.fixed.length := fun hn => (fix_ne hf h0 hn).2 h
  unfold letterS; rw [if_neg (by omega), if_neg h1]
theorem byte_bd (c : UInt8) : 0 ≤ (c.toNat : Int) ∧ (c.toNat : Int) ≤ 255 := by have := c.toNat_lt; omega
theorem letterS_bd (f : FormL) (i : Int) : 0 ≤ letterS f i ∧ letterS f i ≤ 255 := by
  unfold letterS restS
  have h1 := byte_bd (f.fixed.getD i.toNat 0)
  have h2 := byte_bd (f.rest.getD ((i - f.fixed.length) % f.rest.length).toNat 0)
  repeat (split; · omega)
  omega
theorem most_div {k r m : Int} (hr : 0 < r) : (m ≤ k / r ↔ m * r ≤ k) := Int.le_ediv_iff_mul_le hr
theorem find_name_small : refT.all (fun f => decide (refT.find? (nmF f.name) = some f)) = true := by decide +kernel
theorem find_name {op : Int} {f : FormL} (h : refS op = some f) : refT.find? (nmF f.name) = some f := by
  have := List.all_eq_true.1 find_name_small f (refF_mem h).1
  simpa only [decide_eq_true_eq] using this
theorem refD_none {op : Int} (h : (refS op).isSome = false) : refD op = zeroF := by
  rw [refD, show refS op = none by simpa using h]; rfl
theorem refD_some {op : Int} (h : (refS op).isSome = true) : refT.find? (nmF (refD op).name) = some (refD op) ∧ (refD op).op = op := by
  obtain ⟨f, hf⟩ := Option.isSome_iff_exists.1 h
  rw [refD, hf]
  exact ⟨find_name hf, refS_op hf⟩
theorem letter_zero (i : Int) : letterS zeroF i = 0 := by
  unfold letterS
  by_cases h : i < 0
  · rw [if_pos h]
  · rw [if_neg h, if_neg (by show ¬ i < 0; omega)]
    unfold restS
    rw [if_pos (.inr (.inl rfl))]
theorem div_bd {a b : Int} (ha : 0 ≤ a) (hb : 0 < b) : 0 ≤ a / b ∧ a / b ≤ a := ⟨Int.ediv_nonneg ha (by omega), Int.ediv_le_self b ha⟩
end Go.SK
namespace Go.SK
abbrev u8C (x : Int) : List Value := [.int .u8 x]
theorem u8C_len (x : Int) : (u8C x).length = 1 := rfl
abbrev badB (f : FormL) (i : Nat) (k : Int) : Prop := k = 0 ∨ kindS (letterS f i) ≠ k
def badI (f : FormL) : Nat → List Int → Option Nat
  | _, [] => none
  | i, k :: ks => if badB f i k then some i else badI f (i + 1) ks
theorem bad_hit {f : FormL} {ks : List Int} {i : Nat} {R : Option Nat} (h : badI f i (ks.drop i) = R) (hi : i < ks.length) (hb : badB f i (ks.getD i 0)) : R = some i := by
  rw [List.drop_eq_getElem_cons hi, badI] at h
  simp only [List.getD, List.getElem?_eq_getElem hi, Option.getD_some] at hb
  rw [if_pos hb] at h; exact h.symm
theorem bad_miss {f : FormL} {ks : List Int} {i : Nat} {R : Option Nat} (h : badI f i (ks.drop i) = R) (hi : i < ks.length) (hb : ¬ badB f i (ks.getD i 0)) : badI f (i + 1) (ks.drop (i + 1)) = R := by
  rw [List.drop_eq_getElem_cons hi, badI] at h
  simp only [List.getD, List.getElem?_eq_getElem hi, Option.getD_some] at hb
  rwa [if_neg hb] at h
theorem bad_end {f : FormL} {ks : List Int} {i : Nat} {R : Option Nat} (h : badI f i (ks.drop i) = R) (hi : ks.length ≤ i) : R = none := by
  rw [List.drop_eq_nil_of_le hi, badI] at h; exact h.symm
abbrev offR (f : FormL) (n : Nat) : Prop := (n : Int) - f.fixed.length < 0 ∨ (f.rest ≠ [] ∧ ((n : Int) - f.fixed.length) % f.rest.length ≠ 0)
def fitsF (f : FormL) (ks : List Int) : Int × Bool := match badI f 0 ks with
  | some i => ((i : Int), false)
  | none => if offR f ks.length then ((ks.length : Int), false) else (0, true)
def fitsS (op : Int) (ks : List Int) : Int × Bool := if (refS op).isSome then fitsF (refD op) ks else (0, false)
abbrev fitsV (p : Int × Bool) : Value := .tuple #[.int .i64 p.1, .bool p.2]
theorem fits_no {op : Int} {ks : List Int} {ob : Bool} (h : (refS op).isSome = ob) (ho : ob = false) : fitsS op ks = (0, false) := by
  unfold fitsS; rw [h, ho]; rfl
theorem fits_yes {op : Int} {ks : List Int} {fm : FormL} {ob : Bool} (h : (refS op).isSome = ob) (hf : refD op = fm) (ho : ob = true) : fitsS op ks = fitsF fm ks := by
  unfold fitsS; rw [h, ho, hf]; rfl
theorem fitsF_bad {f : FormL} {ks : List Int} {i : Nat} (h : badI f 0 ks = some i) : fitsF f ks = ((i : Int), false) := by unfold fitsF; rw [h]
theorem fitsF_off {f : FormL} {ks : List Int} (h : badI f 0 ks = none) (ho : offR f ks.length) : fitsF f ks = ((ks.length : Int), false) := by unfold fitsF; rw [h]; simp only; rw [if_pos ho]
theorem fitsF_on {f : FormL} {ks : List Int} (h : badI f 0 ks = none) (ho : ¬ offR f ks.length) : fitsF f ks = (0, true) := by unfold fitsF; rw [h]; simp only; rw [if_neg ho]
theorem letters_small : refT.all (fun f => (f.fixed ++ f.rest).all fun c => decide (kindS c.toNat ≠ 0)) = true := by decide +kernel
theorem refD_kind (op i : Int) (h : letterS (refD op) i ≠ 0) : kindS (letterS (refD op) i) ≠ 0 := by
  cases hr : refS op with
  | none =>
    have : refD op = zeroF := by rw [refD, hr]; rfl
    rw [this, letter_zero] at h; exact absurd rfl h
  | some f =>
    have e : refD op = f := by rw [refD, hr]; rfl
    rw [e] at h ⊢
    have hall := List.all_eq_true.1 letters_small f (refF_mem hr).1
    rw [List.all_eq_true] at hall
    have key : ∀ c ∈ f.fixed ++ f.rest, kindS (c.toNat : Int) ≠ 0 := fun c hc => by simpa only [decide_eq_true_eq] using hall c hc
    unfold letterS at h ⊢
    split at h
    · exact absurd rfl h
    · rename_i h0
      rw [if_neg h0]
      split at h
      · rename_i h1
        rw [if_pos h1]
        have hi : i.toNat < f.fixed.length := by omega
        simp only [List.getD, List.getElem?_eq_getElem hi, Option.getD_some]
        exact key _ (List.mem_append_left _ (List.getElem_mem hi))
      · rename_i h1
        rw [if_neg h1]
        unfold restS at h ⊢
        split at h
        · exact absurd rfl h
        · rename_i h2
          rw [if_neg h2]
          have hr2 : 0 < f.rest.length := List.length_pos_iff.2 (fun e => h2 (.inr (.inl e)))
          have hm := Int.emod_lt_of_pos (i - (f.fixed.length : Int)) (show (0 : Int) < f.rest.length by omega)
          have hn := Int.emod_nonneg (i - (f.fixed.length : Int)) (show (f.rest.length : Int) ≠ 0 by omega)
          have hi : ((i - (f.fixed.length : Int)) % (f.rest.length : Int)).toNat < f.rest.length := by omega
          simp only [List.getD, List.getElem?_eq_getElem hi, Option.getD_some]
          exact key _ (List.mem_append_right _ (List.getElem_mem hi))
theorem kind_zero : kindS 0 = 0 := by decide +kernel
theorem bad_long {f : FormL} {ks : List Int} (hr : f.rest = []) (h : badI f 0 ks = none) : ks.length ≤ f.fixed.length := by
  refine Classical.byContradiction fun hn => ?_
  have key : ∀ i, i ≤ f.fixed.length → badI f i (ks.drop i) = none := by
    intro i
    induction i with
    | zero => intro _; exact h
    | succ i ih =>
      intro hi
      have h1 := ih (by omega)
      refine bad_miss h1 (by omega) fun hb => ?_
      have := bad_hit h1 (by omega) hb
      cases this
  have h1 := key f.fixed.length (Nat.le_refl _)
  have hb : badB f f.fixed.length (ks.getD f.fixed.length 0) := by
    have hl : letterS f (f.fixed.length : Int) = 0 := by
      unfold letterS
      rw [if_neg (by omega), if_neg (by omega)]
      unfold restS; rw [if_pos (.inr (.inl hr))]
    by_cases hk : ks.getD f.fixed.length 0 = 0
    · exact .inl hk
    · right; rw [hl, kind_zero]; exact fun e => hk e.symm
  have := bad_hit h1 (by omega) hb
  cases this
theorem badI_none {f : FormL} {i : Nat} : ∀ {ts : List Int}, (∀ j (hj : j < ts.length), ¬ badB f (i + j) ts[j]) → badI f i ts = none
  | [], _ => rfl
  | k :: ts, h => by
    rw [badI, if_neg (show ¬ badB f i k from h 0 (by simp))]
    exact badI_none (i := i + 1) fun j hj => by
      have := h (j + 1) (by simpa using hj)
      rw [show i + 1 + j = i + (j + 1) by omega]
      exact this
end Go.SK
namespace Go.SK
open Go.RowKit Go.ChangeShapes Go.WideShapes Go.ChangeAt
def idE (n bound : Int) : Int := if n = 0 ∨ n ≥ bound then 43 else 0
def enumE (c n : Int) : Int := if (namesL.find? (enN c n)).isSome = true then 0 else 31
theorem idE_ne {n bound : Int} : idE n bound ≠ 0 ↔ (n = 0 ∨ n ≥ bound) := by unfold idE; split <;> simp_all
theorem enumE_zero {c n : Int} : enumE c n = 0 ↔ (namesL.find? (enN c n)).isSome = true := by unfold enumE; split <;> simp_all
def argE (c : Int) (ws : List Int) (bound : Int) : ArgP × Nat × Int :=
  if c = 0 ∨ ws.length = 0 then (zeroA, 0, 42)
  else if kindS c = 3 then (⟨3, 0, (textF ws).1⟩, (textF ws).2.1.toNat, (textF ws).2.2)
  else (⟨kindS c, ws.getD 0 0, []⟩, 1, if kindS c = 1 then idE (ws.getD 0 0) bound else if kindS c = 4 then enumE c (ws.getD 0 0) else 0)
theorem argE_none {c : Int} {ws : List Int} {b : Int} (h : c = 0 ∨ ws.length = 0) : argE c ws b = (zeroA, 0, 42) := if_pos h
theorem argE_text {c : Int} {ws : List Int} {b : Int} (h : ¬ c = 0) (h2 : ¬ ws.length = 0) (hk : kindS c = 3) : argE c ws b = (⟨3, 0, (textF ws).1⟩, (textF ws).2.1.toNat, (textF ws).2.2) := by
  unfold argE; rw [if_neg (fun h3 => h3.elim h h2), if_pos hk]
theorem argE_one {c : Int} {ws : List Int} {b : Int} (h : ¬ c = 0) (h2 : ¬ ws.length = 0) (hk : ¬ kindS c = 3) : argE c ws b = (⟨kindS c, ws.getD 0 0, []⟩, 1, if kindS c = 1 then idE (ws.getD 0 0) b else if kindS c = 4 then enumE c (ws.getD 0 0) else 0) := by
  unfold argE; rw [if_neg (fun h3 => h3.elim h h2), if_neg hk]
theorem argE_ok {c : Int} {ws : List Int} {b : Int} (h : (argE c ws b).2.2 = 0) : 1 ≤ (argE c ws b).2.1 ∧ (argE c ws b).2.1 ≤ ws.length ∧ c ≠ 0 ∧ (argE c ws b).1.kind = kindS c := by
  by_cases h1 : c = 0 ∨ ws.length = 0
  · rw [argE_none h1] at h; cases h
  · have h2 : ¬ c = 0 := fun e => h1 (.inl e)
    have h3 : ¬ ws.length = 0 := fun e => h1 (.inr e)
    by_cases hk : kindS c = 3
    · rw [argE_text h2 h3 hk] at h ⊢
      rcases textF_cases ws with ⟨e, he, h4⟩ | ⟨s, n, he, h4, h5, h6⟩
      · rw [he] at h; simp only at h; omega
      · rw [he]; simp only [Int.toNat_natCast]; exact ⟨h4, h5, h2, hk.symm⟩
    · rw [argE_one h2 h3 hk] at h ⊢
      exact ⟨Nat.le_refl _, by (try dsimp only); omega, h2, rfl⟩
def argsF (fm : FormL) (bound : Int) : Nat → Nat → List Int → List ArgP × Int
  | 0, _, _ => ([], 0)
  | n + 1, k, ws => if ws.length = 0 ∧ fm.fixed.length ≤ k then ([], 0)
    else if (argE (letterS fm k) ws bound).2.2 ≠ 0 then ([], (argE (letterS fm k) ws bound).2.2)
    else ((argE (letterS fm k) ws bound).1 :: (argsF fm bound n (k + 1) (ws.drop (argE (letterS fm k) ws bound).2.1)).1, (argsF fm bound n (k + 1) (ws.drop (argE (letterS fm k) ws bound).2.1)).2)
theorem argsF_fuel {fm : FormL} {bound : Int} : ∀ n n' k ws, ws.length < n → ws.length < n' → argsF fm bound n k ws = argsF fm bound n' k ws
  | 0, _, _, _, h, _ => absurd h (Nat.not_lt_zero _)
  | _, 0, _, _, _, h => absurd h (Nat.not_lt_zero _)
  | n + 1, n' + 1, k, ws, h, h' => by
    rw [argsF, argsF]
    by_cases h1 : ws.length = 0 ∧ fm.fixed.length ≤ k
    · rw [if_pos h1, if_pos h1]
    · rw [if_neg h1, if_neg h1]
      by_cases h2 : (argE (letterS fm k) ws bound).2.2 ≠ 0
      · rw [if_pos h2, if_pos h2]
      · have h3 := argE_ok (Classical.not_not.1 h2)
        rw [if_neg h2, if_neg h2, argsF_fuel n n' _ _ (by rw [List.length_drop]; omega) (by rw [List.length_drop]; omega)]
abbrev argsR (fm : FormL) (bound : Int) (k : Nat) (ws : List Int) : List ArgP × Int := argsF fm bound (ws.length + 1) k ws
theorem argsR_err {fm : FormL} {bound : Int} {k : Nat} {ws : List Int} (h : ws.length > 0 ∨ k < fm.fixed.length) (he : (argE (letterS fm k) ws bound).2.2 ≠ 0) : argsR fm bound k ws = ([], (argE (letterS fm k) ws bound).2.2) := by
  unfold argsR; rw [argsF, if_neg (by omega), if_pos he]
theorem argsR_step {fm : FormL} {bound : Int} {k : Nat} {ws : List Int} {a : ArgP} {m : Nat} (h : ws.length > 0 ∨ k < fm.fixed.length) (he : argE (letterS fm k) ws bound = (a, m, 0)) : argsR fm bound k ws = (a :: (argsR fm bound (k + 1) (ws.drop m)).1, (argsR fm bound (k + 1) (ws.drop m)).2) := by
  have h0 : (argE (letterS fm k) ws bound).2.2 = 0 := by rw [he]
  have h3 := argE_ok h0
  unfold argsR
  rw [argsF, if_neg (by omega), if_neg (fun e => e h0)]
  rw [he] at h3 ⊢
  dsimp only at h3 ⊢
  rw [argsF_fuel ws.length ((ws.drop m).length + 1) _ _ (by rw [List.length_drop]; omega) (by omega)]
theorem kinds_none {op : Int} {ags : List ArgP} (h : ∀ j, j < ags.length → letterS (refD op) (j : Int) ≠ 0 ∧ (ags.getD j zeroA).kind = kindS (letterS (refD op) (j : Int))) : badI (refD op) 0 (ags.map ArgP.kind) = none := by
  refine badI_none fun j hj => ?_
  simp only [List.length_map] at hj
  have hh := h j hj
  have e : (ags.map ArgP.kind)[j]'(by simpa using hj) = (ags.getD j zeroA).kind := by simp [List.getD, hj]
  rw [e, hh.2, Nat.zero_add]
  intro hb
  rcases hb with hb | hb
  · exact refD_kind op j hh.1 hb
  · exact hb rfl
def wholeE (op : Int) (ags : List ArgP) : Int := if (fitsS op (ags.map ArgP.kind)).2 = true then 0 else 42
theorem wholeE_of {op : Int} {ags : List ArgP} (hob : (refS op).isSome = true) (h : badI (refD op) 0 (ags.map ArgP.kind) = none) : wholeE op ags = if offR (refD op) ags.length then 42 else 0 := by
  unfold wholeE
  rw [fits_yes (fm := refD op) hob rfl rfl]
  by_cases ho : offR (refD op) ags.length
  · rw [fitsF_off h (by rwa [List.length_map]), if_pos ho]; rfl
  · rw [fitsF_on h (by rwa [List.length_map]), if_neg ho]; rfl
def b2n (b : Bool) : Nat := if b = true then 1 else 0
def headsF (fm : FormL) (l : List Int) (bound : Int) : Nat × Int :=
  if fm.ty = true ∧ l.length = 0 then (0, 40)
  else if fm.ty = true ∧ idE (l.getD 0 0) bound ≠ 0 then (0, 43)
  else if fm.res = true ∧ l.length = b2n fm.ty then (0, 41)
  else if fm.res = true ∧ idE (l.getD (b2n fm.ty) 0) bound ≠ 0 then (0, 43)
  else (b2n fm.ty + b2n fm.res, 0)
def zeroIL : InstL := ⟨0, 0, 0, []⟩
def argW (a : ArgP) : List Int := if a.kind = 3 then ofTextL a.s else [a.n]
def argRoom (a : ArgP) : Nat := if a.kind = 3 then a.s.length / 4 + 1 else 1
def wrongA (c : Int) (a : ArgP) (bound : Int) : Int :=
  if c = 0 ∨ a.kind ≠ kindS c then 42
  else if (a.kind = 3 ∧ a.n ≠ 0) ∨ (a.kind ≠ 3 ∧ a.s ≠ []) then 42
  else if a.kind = 1 ∧ idE a.n bound ≠ 0 then 43
  else if a.kind = 4 ∧ enumE c a.n ≠ 0 then 31
  else if zeroAt a.s ≠ a.s.length then 13 else 0
def idH (must : Bool) (n bound e : Int) : Int := if must ≠ decide (n ≠ 0) then e else if must = true ∧ n ≥ bound then 43 else 0
def wrongL (fm : FormL) (bound : Int) : Nat → List ArgP → Int
  | _, [] => 0
  | k, a :: ags => if wrongA (letterS fm k) a bound ≠ 0 then wrongA (letterS fm k) a bound else wrongL fm bound (k + 1) ags
def headW (fm : FormL) (ty res : Int) : List Int := (if fm.ty = true then [ty] else []) ++ (if fm.res = true then [res] else [])
def roomI (fm : FormL) (ags : List ArgP) : Nat := 1 + (b2n fm.ty + b2n fm.res) + (ags.map argRoom).sum
def faultF (bound : Int) (i : InstL) : Int :=
  if (refS i.op).isSome = false then 30
  else if idH (refD i.op).ty i.ty bound 40 ≠ 0 then idH (refD i.op).ty i.ty bound 40
  else if idH (refD i.op).res i.res bound 41 ≠ 0 then idH (refD i.op).res i.res bound 41
  else if wrongL (refD i.op) bound 0 i.args ≠ 0 then wrongL (refD i.op) bound 0 i.args
  else if offR (refD i.op) i.args.length then 42
  else if roomI (refD i.op) i.args > 65535 then 25 else 0
def wordsI (fm : FormL) (i : InstL) : List Int := headW fm i.ty i.res ++ i.args.flatMap argW
def rawF (bound : Int) (i : InstL) : RawL × Int := if faultF bound i ≠ 0 then ((0, []), faultF bound i) else ((i.op, wordsI (refD i.op) i), 0)
end Go.SK
namespace Go.SK
def instS (fm : FormL) (bound : Int) (l : List Int) : List ArgP × Int :=
  if (headsF fm l bound).2 ≠ 0 then ([], (headsF fm l bound).2) else argsR fm bound 0 (l.drop (b2n fm.ty + b2n fm.res))
section
variable {fm : FormL} {bound op : Int} {l : List Int}
theorem instS_head (h : (headsF fm l bound).2 ≠ 0) : instS fm bound l = ([], (headsF fm l bound).2) := if_pos h
theorem instS_args (h : (headsF fm l bound).2 = 0) : instS fm bound l = argsR fm bound 0 (l.drop (b2n fm.ty + b2n fm.res)) := if_neg (fun e => e h)
theorem ite_ne_zero_self {α : Type} {x y : α} : (if (0 : Int) ≠ 0 then x else y) = y := if_neg (fun h => h rfl)
def H1 (fm : FormL) (l : List Int) (bound : Int) (a : Nat) (ty e : Int) : Prop := a ≤ l.length ∧ (e = 0 → a = b2n fm.ty ∧ ty = (if fm.ty = true then l.getD 0 0 else 0) ∧ ¬ (fm.ty = true ∧ l.length = 0) ∧ ¬ (fm.ty = true ∧ idE (l.getD 0 0) bound ≠ 0)) ∧ (e ≠ 0 → (headsF fm l bound).2 = e)
theorem H1.no (h : fm.ty = false) : H1 fm l bound 0 0 0 := ⟨Nat.zero_le _, fun _ => ⟨by rw [b2n, h]; rfl, by rw [h]; rfl, by rw [h]; simp, by rw [h]; simp⟩, fun h => absurd rfl h⟩
theorem H1.lacks (h : fm.ty = true) (hl : l.length = 0) : H1 fm l bound 0 0 40 := ⟨Nat.zero_le _, fun hx => absurd hx (by decide), fun _ => by unfold headsF; rw [if_pos ⟨h, hl⟩]⟩
theorem H1.word (h : fm.ty = true) (hl : 0 < l.length) : H1 fm l bound 1 (l.getD 0 0) (idE (l.getD 0 0) bound) := by
  refine ⟨hl, fun he => ⟨by rw [b2n, h]; rfl, by rw [h]; rfl, fun h2 => by omega, fun h2 => h2.2 he⟩, fun he => ?_⟩
  have h43 : idE (l.getD 0 0) bound = 43 := by
    unfold idE at he ⊢; split
    · rfl
    · rename_i hn; rw [if_neg hn] at he; exact absurd rfl he
  unfold headsF
  rw [if_neg (fun h2 => by omega), if_pos ⟨h, he⟩, h43]
def H2 (fm : FormL) (l : List Int) (bound : Int) (a : Nat) (ty res e : Int) : Prop := a ≤ l.length ∧ (e = 0 → (headsF fm l bound).2 = 0 ∧ a = b2n fm.ty + b2n fm.res ∧ ty = (if fm.ty = true then l.getD 0 0 else 0) ∧ res = (if fm.res = true then l.getD (b2n fm.ty) 0 else 0)) ∧ (e ≠ 0 → (headsF fm l bound).2 = e)
theorem H2.err {a : Nat} {ty e : Int} (h : H1 fm l bound a ty e) (he : e ≠ 0) : H2 fm l bound a ty 0 e := ⟨h.1, fun h2 => absurd h2 he, h.2.2⟩
theorem H2.no {a : Nat} {ty e : Int} (h : H1 fm l bound a ty e) (hr : fm.res = false) (he : e = 0) : H2 fm l bound a ty 0 e := by
  have h1 := h.2.1 he
  refine ⟨h.1, fun _ => ⟨?_, by rw [b2n.eq_def fm.res, hr]; exact h1.1, h1.2.1, by rw [hr]; rfl⟩, fun h2 => absurd he h2⟩
  unfold headsF
  rw [if_neg h1.2.2.1, if_neg h1.2.2.2, if_neg (by rw [hr]; simp), if_neg (by rw [hr]; simp)]
theorem H2.lacks {a : Nat} {ty : Int} (h : H1 fm l bound a ty 0) (hr : fm.res = true) (hl : a = l.length) : H2 fm l bound a ty 0 41 := by
  have h1 := h.2.1 rfl
  refine ⟨h.1, fun hx => absurd hx (by decide), fun _ => ?_⟩
  unfold headsF
  rw [if_neg h1.2.2.1, if_neg h1.2.2.2, if_pos ⟨hr, by omega⟩]
theorem H2.word {a : Nat} {ty : Int} (h : H1 fm l bound a ty 0) (hr : fm.res = true) (hl : a < l.length) : H2 fm l bound (a + 1) ty (l.getD a 0) (idE (l.getD a 0) bound) := by
  have h1 := h.2.1 rfl
  have ha := h1.1
  subst ha
  refine ⟨hl, fun he => ⟨?_, by rw [b2n.eq_def fm.res, hr]; rfl, h1.2.1, by rw [hr]; rfl⟩, fun he => ?_⟩
  · unfold headsF
    rw [if_neg h1.2.2.1, if_neg h1.2.2.2, if_neg (fun h2 => by omega), if_neg (fun h2 => h2.2 he)]
  · have h43 : idE (l.getD (b2n fm.ty) 0) bound = 43 := by
      unfold idE at he ⊢; split
      · rfl
      · rename_i hn; rw [if_neg hn] at he; exact absurd rfl he
    unfold headsF
    rw [if_neg h1.2.2.1, if_neg h1.2.2.2, if_neg (fun h2 => by omega), if_pos ⟨hr, he⟩, h43]
theorem H2.zero {a : Nat} {ty res e : Int} (h : H2 fm l bound a ty res e) (hs : (instS fm bound l).2 = 0) : e = 0 := Classical.byContradiction fun he => by
  have h1 := h.2.2 he
  rw [instS_head (by rw [h1]; exact he), h1] at hs
  exact he hs
def A1 (fm : FormL) (l : List Int) (bound : Int) (a : Nat) (e : Int) (ags : List ArgP) : Prop := a ≤ l.length ∧ ags.length ≤ a + 1 ∧ (e = 0 → ags.length ≤ a ∧ ags ++ (argsR fm bound ags.length (l.drop a)).1 = (instS fm bound l).1 ∧ (argsR fm bound ags.length (l.drop a)).2 = (instS fm bound l).2) ∧ (e ≠ 0 → (instS fm bound l).2 = e)
theorem A1.start {a : Nat} {ty res e : Int} (h : H2 fm l bound a ty res e) : A1 fm l bound a e [] := by
  refine ⟨h.1, Nat.zero_le _, fun he => ⟨Nat.zero_le _, ?_⟩, fun he => ?_⟩
  · have h1 := h.2.1 he
    rw [instS_args h1.1, ← h1.2.1]
    exact ⟨rfl, rfl⟩
  · have h1 := h.2.2 he
    rw [instS_head (by rw [h1]; exact he), h1]
theorem A1.step {a a2 : Nat} {ags ags2 : List ArgP} {c : Int} (h : A1 fm l bound a 0 ags) (hc : letterS fm (ags.length : Int) = c) (hgo : l.length - a > 0 ∨ ags.length < fm.fixed.length)
    (hE : (argE c (l.drop a) bound).2.2 = 0 → a2 = a + (argE c (l.drop a) bound).2.1 ∧ ags2 = ags ++ [(argE c (l.drop a) bound).1]) (ha2 : a2 ≤ l.length) (hn : ags2.length ≤ ags.length + 1) (hle : a ≤ a2 ∨ (argE c (l.drop a) bound).2.2 = 0) : A1 fm l bound a2 (argE c (l.drop a) bound).2.2 ags2 := by
  subst hc
  have h1 := h.2.2.1 rfl
  refine ⟨ha2, ?_, fun he => ?_, fun he => ?_⟩
  · rcases hle with hh | hh
    · omega
    · have := hE hh; omega
  · have h2 := hE he
    have h3 := argE_ok he
    have hs := argsR_step (fm := fm) (bound := bound) (k := ags.length) (ws := l.drop a) (a := (argE (letterS fm ags.length) (l.drop a) bound).1) (m := (argE (letterS fm ags.length) (l.drop a) bound).2.1) (by rw [List.length_drop]; omega) (by rw [← he])
    rw [List.drop_drop] at hs
    rw [h2.1, h2.2, List.length_append, List.length_singleton]
    rw [hs] at h1
    exact ⟨by omega, by rw [List.append_assoc]; exact h1.2.1, h1.2.2⟩
  · rw [← h1.2.2, argsR_err (by rw [List.length_drop]; omega) he]
def A1mu (n a : Nat) (e : Int) : Nat := if e = 0 then n - a + 1 else 0
theorem A1mu.step {n a a2 : Nat} {e2 : Int} (h : e2 = 0 → a < a2 ∧ a2 ≤ n) : A1mu n a2 e2 < A1mu n a 0 := by
  unfold A1mu
  rw [if_pos rfl]
  split
  · rename_i he; have := h he; omega
  · omega
end
end Go.SK
namespace Go.SK
def wholeQ (fm : FormL) (n : Nat) : Bool := if n < fm.fixed.length then false else if fm.rest.length = 0 then decide (n = fm.fixed.length) else decide (((n : Int) - fm.fixed.length) % fm.rest.length = 0)
theorem wholeQ_off {fm : FormL} {n : Nat} (h : fm.rest = [] → n ≤ fm.fixed.length) : wholeQ fm n = true ↔ ¬ offR fm n := by
  unfold wholeQ offR
  by_cases h1 : n < fm.fixed.length
  · rw [if_pos h1]
    refine ⟨fun hx => absurd hx (by decide), fun hx => absurd (Or.inl (by omega)) hx⟩
  · rw [if_neg h1]
    by_cases h2 : fm.rest.length = 0
    · have h3 := h (List.length_eq_zero_iff.1 h2)
      rw [if_pos h2]
      refine ⟨fun _ hx => ?_, fun _ => decide_eq_true (by omega)⟩
      rcases hx with hx | hx
      · omega
      · exact hx.1 (List.length_eq_zero_iff.1 h2)
    · rw [if_neg h2]
      refine ⟨fun hd hx => ?_, fun hx => decide_eq_true (Classical.not_not.1 fun hn => hx (.inr ⟨fun e => h2 (by rw [e]; rfl), hn⟩))⟩
      rcases hx with hx | hx
      · omega
      · exact hx.2 (of_decide_eq_true hd)
section
variable {fm : FormL} {bound : Int} {l : List Int}
theorem A1.err {a : Nat} {ags : List ArgP} {c e : Int} (h : A1 fm l bound a 0 ags) (hc : letterS fm (ags.length : Int) = c) (hgo : l.length - a > 0 ∨ ags.length < fm.fixed.length) (hE : (argE c (l.drop a) bound).2.2 = e) (he : e ≠ 0) : (instS fm bound l).2 = e := by
  subst hc
  have h1 := h.2.2.1 rfl
  rw [← h1.2.2, argsR_err (by rw [List.length_drop]; omega) (by rw [hE]; exact he), hE]
end
end Go.SK
namespace Go.SK
open Go.RowKit Go.ChangeShapes Go.WideShapes Go.ChangeAt
abbrev WrC (Tc Tw : TypeId) (bq : Nat) (fm : FormL) (bound : Int) (ao : Option Addr) (cp : Nat) (ws : List Int) (room : Int) : Res :=
  Res.star [Res.row bq Tc [.int .u16 fm.op, str fm.name, .bool fm.ty, .bool fm.res, str fm.fixed, str fm.rest, .int .i64 fm.most, .int .u8 fm.part, .int .u32 bound, .slice ao ws.length cp, .int .i64 room], Res.sl ao ws.length cp Tw 1 (ws.flatMap u32C)]
def mustW (must : Bool) (n : Int) : List Int := if must = true then [n] else []
theorem idH_lacks {must : Bool} {n bound e : Int} (h : must ≠ decide (n ≠ 0)) : idH must n bound e = e := if_pos h
theorem idH_no {must : Bool} {n bound e : Int} (h : ¬ must ≠ decide (n ≠ 0)) (hm : must = false) : idH must n bound e = 0 := by unfold idH; rw [if_neg h, if_neg (by rw [hm]; simp)]
theorem idH_id {must : Bool} {n bound e : Int} (h : ¬ must ≠ decide (n ≠ 0)) (hm : must = true) : idH must n bound e = idE n bound := by
  subst hm
  have hn : n ≠ 0 := by
    intro e; apply h; subst e; decide
  unfold idH idE
  rw [if_neg h]
  by_cases hb : n ≥ bound
  · rw [if_pos ⟨rfl, hb⟩, if_pos (.inr hb)]
  · rw [if_neg (fun hx => hb hx.2), if_neg (fun hx => hx.elim hn hb)]
def textE (s : List UInt8) : Int := if zeroAt s ≠ s.length then 13 else 0
theorem ofText_len {s : List UInt8} (h : ofTextE s = 0) : (ofTextL s).length = s.length / 4 + 1 := by
  rw [ofTextL_ok h, splitW_len, padded_len]; omega
theorem ofText_le (s : List UInt8) : (ofTextL s).length ≤ s.length / 4 + 1 := by
  by_cases h : ofTextE s = 0
  · rw [ofText_len h]; exact Nat.le_refl _
  · rw [ofTextL_err h]; exact Nat.zero_le _
section
variable {c bound : Int} {a : ArgP}
theorem wrongA_form (h : c = 0 ∨ a.kind ≠ kindS c ∨ (a.kind = 3 ∧ a.n ≠ 0) ∨ (a.kind ≠ 3 ∧ a.s ≠ [])) : wrongA c a bound = 42 := by
  unfold wrongA
  by_cases h1 : c = 0 ∨ a.kind ≠ kindS c
  · rw [if_pos h1]
  · rw [if_neg h1]
    rcases h with h | h | h
    · exact absurd (.inl h) h1
    · exact absurd (.inr h) h1
    · rw [if_pos h]
theorem wrongA_text (h : ¬ c = 0) (hk : ¬ a.kind ≠ kindS c) (h3 : a.kind = 3) (hn : ¬ a.n ≠ 0) : wrongA c a bound = textE a.s := by
  unfold wrongA
  rw [if_neg (fun hx => hx.elim h hk), if_neg (fun hx => hx.elim (fun hy => hn hy.2) (fun hy => hy.1 h3)), if_neg (by omega), if_neg (by omega)]
  rfl
theorem wrongA_one (h : ¬ c = 0) (hk : ¬ a.kind ≠ kindS c) (h3 : ¬ a.kind = 3) (hs : ¬ a.s ≠ []) : wrongA c a bound = if a.kind = 1 then idE a.n bound else if a.kind = 4 then enumE c a.n else 0 := by
  have hs0 : a.s = [] := Classical.not_not.1 hs
  have hz : ¬ zeroAt a.s ≠ a.s.length := by rw [hs0]; simp [zeroAt]
  unfold wrongA
  rw [if_neg (fun hx => hx.elim h hk), if_neg (fun hx => hx.elim (fun hy => h3 hy.1) (fun hy => hs hy.2))]
  by_cases k1 : a.kind = 1
  · rw [if_pos k1]
    by_cases he : idE a.n bound = 0
    · rw [if_neg (fun hx => hx.2 he), if_neg (by omega), if_neg hz, he]
    · rw [if_pos ⟨k1, he⟩]
      unfold idE at he ⊢; split
      · rfl
      · rename_i hn; rw [if_neg hn] at he; exact absurd rfl he
  · rw [if_neg k1, if_neg (fun hx => k1 hx.1)]
    by_cases k4 : a.kind = 4
    · rw [if_pos k4]
      by_cases he : enumE c a.n = 0
      · rw [if_neg (fun hx => hx.2 he), if_neg hz, he]
      · rw [if_pos ⟨k4, he⟩]
        unfold enumE at he ⊢; split
        · rename_i hn; rw [if_pos hn] at he; exact absurd rfl he
        · rfl
    · rw [if_neg k4, if_neg (fun hx => k4 hx.1), if_neg hz]
theorem argW_text (h : a.kind = 3) : argW a = ofTextL a.s ∧ argRoom a = a.s.length / 4 + 1 := by unfold argW argRoom; rw [if_pos h, if_pos h]; exact ⟨rfl, rfl⟩
theorem argW_one (h : ¬ a.kind = 3) : argW a = [a.n] ∧ argRoom a = 1 := by unfold argW argRoom; rw [if_neg h, if_neg h]; exact ⟨rfl, rfl⟩
end
end Go.SK
namespace Go.SK
open Go.RowKit Go.ChangeShapes Go.WideShapes Go.ChangeAt
section
variable {bound : Int} {i : InstL}
theorem faultF_op (h : (refS i.op).isSome = false) : faultF bound i = 30 := if_pos h
theorem faultF_eq (h : (refS i.op).isSome = true) : faultF bound i = if idH (refD i.op).ty i.ty bound 40 ≠ 0 then idH (refD i.op).ty i.ty bound 40
  else if idH (refD i.op).res i.res bound 41 ≠ 0 then idH (refD i.op).res i.res bound 41
  else if wrongL (refD i.op) bound 0 i.args ≠ 0 then wrongL (refD i.op) bound 0 i.args
  else if offR (refD i.op) i.args.length then 42
  else if roomI (refD i.op) i.args > 65535 then 25 else 0 := by
  unfold faultF; rw [if_neg (by rw [h]; decide)]
theorem wrongL_app {fm : FormL} {ys : List ArgP} : ∀ (xs : List ArgP) (k : Nat), wrongL fm bound k (xs ++ ys) = if wrongL fm bound k xs ≠ 0 then wrongL fm bound k xs else wrongL fm bound (k + xs.length) ys
  | [], k => by simp [wrongL]
  | x :: xs, k => by
    rw [List.cons_append, wrongL, wrongL]
    by_cases h : wrongA (letterS fm k) x bound ≠ 0
    · rw [if_pos h, if_pos h, if_pos h]
    · rw [if_neg h, if_neg h, wrongL_app xs (k + 1), List.length_cons, show k + 1 + xs.length = k + (xs.length + 1) by omega]
theorem wrongL_take {fm : FormL} {l : List ArgP} {k : Nat} (hk : k < l.length) (h : wrongL fm bound 0 (l.take k) = 0) : (wrongL fm bound 0 (l.take (k + 1)) = wrongA (letterS fm (k : Int)) (l.getD k zeroA) bound) ∧ (wrongA (letterS fm (k : Int)) (l.getD k zeroA) bound ≠ 0 → wrongL fm bound 0 l = wrongA (letterS fm (k : Int)) (l.getD k zeroA) bound) := by
  have hl : (l.take k).length = k := by rw [List.length_take]; omega
  constructor
  · rw [take_getD2 (d := zeroA) hk, wrongL_app, if_neg (fun e => e h), hl, Nat.zero_add, wrongL]
    by_cases he : wrongA (letterS fm (k : Int)) (l.getD k zeroA) bound ≠ 0
    · rw [if_pos he]
    · rw [if_neg he, wrongL, Classical.not_not.1 he]
  · intro he
    have e : l = l.take k ++ (l.getD k zeroA :: l.drop (k + 1)) := by
      have := List.take_append_drop k l
      rw [List.drop_eq_getElem_cons hk] at this
      simp only [List.getD, List.getElem?_eq_getElem hk, Option.getD_some]
      exact this.symm
    conv => lhs; rw [e]
    rw [wrongL_app, if_neg (fun e => e h), hl, Nat.zero_add, wrongL, if_pos he]
theorem wrongL_kinds {fm : FormL} : ∀ (l : List ArgP) (k : Nat), wrongL fm bound k l = 0 → ∀ j, j < l.length → letterS fm ((k + j : Nat) : Int) ≠ 0 ∧ (l.getD j zeroA).kind = kindS (letterS fm ((k + j : Nat) : Int))
  | [], k, _, j, hj => by simp at hj
  | x :: l, k, h, j, hj => by
    rw [wrongL] at h
    split at h
    · rename_i h1; exact absurd h h1
    · rename_i h1
      cases j with
      | zero =>
        have h2 := Classical.not_not.1 h1
        unfold wrongA at h2
        split at h2
        · cases h2
        · rename_i h3
          rw [Nat.add_zero]
          exact ⟨fun e => h3 (.inl e), Classical.not_not.1 fun e => h3 (.inr (by simpa using e))⟩
      | succ j =>
        have := wrongL_kinds l (k + 1) h j (by simpa using hj)
        rw [show k + 1 + j = k + (j + 1) by omega] at this
        simpa using this
theorem wrongL_none {op : Int} {l : List ArgP} (h : wrongL (refD op) bound 0 l = 0) : badI (refD op) 0 (l.map ArgP.kind) = none :=
  kinds_none fun j hj => by
    have := wrongL_kinds l 0 h j hj
    rwa [Nat.zero_add] at this
def sumR (l : List ArgP) (k : Nat) : Nat := ((l.take k).map argRoom).sum
theorem sumR_step {l : List ArgP} {k : Nat} (hk : k < l.length) : sumR l (k + 1) = sumR l k + argRoom (l.getD k zeroA) := by
  unfold sumR; rw [take_getD2 (d := zeroA) hk]; simp
theorem sumR_le {l : List ArgP} {k : Nat} : sumR l k ≤ (l.map argRoom).sum := by
  have := congrArg (fun l : List ArgP => (l.map argRoom).sum) (List.take_append_drop k l)
  simp only [List.map_append, List.sum_append] at this
  unfold sumR; omega
theorem argRoom_pos (a : ArgP) : 1 ≤ argRoom a := by unfold argRoom; split <;> omega
theorem len_sum : ∀ l : List ArgP, l.length ≤ (l.map argRoom).sum
  | [] => Nat.le_refl _
  | a :: l => by have := len_sum l; have := argRoom_pos a; simp only [List.length_cons, List.map_cons, List.sum_cons]; omega
structure RW (bound : Int) (i : InstL) (k : Nat) (ws : List Int) (room e : Int) : Prop where
  ok : e = 0 → idH (refD i.op).ty i.ty bound 40 = 0 ∧ idH (refD i.op).res i.res bound 41 = 0 ∧ wrongL (refD i.op) bound 0 (i.args.take k) = 0 ∧ ws = headW (refD i.op) i.ty i.res ++ (i.args.take k).flatMap argW ∧ room = ((b2n (refD i.op).ty + b2n (refD i.op).res + sumR i.args k : Nat) : Int)
  err : e ≠ 0 → faultF bound i = e
  len : ws.length ≤ 2 + sumR i.args k
  r0 : 0 ≤ room
  r1 : room ≤ 2 + (sumR i.args k : Int)
theorem RW.ty (hs : (refS i.op).isSome = true) {ws : List Int} {room : Int} (he : idH (refD i.op).ty i.ty bound 40 ≠ 0) (hl : ws.length ≤ 0 + 1) (h0 : 0 ≤ room) (h1 : room ≤ 0 + 1) : RW bound i 0 ws room (idH (refD i.op).ty i.ty bound 40) :=
  ⟨fun h => absurd h he, fun _ => by rw [faultF_eq hs, if_pos he], by omega, h0, by omega⟩
theorem RW.start {ws2 : List Int} {room2 : Int} (hs : (refS i.op).isSome = true) (h1 : idH (refD i.op).ty i.ty bound 40 = 0)
    (h2 : idH (refD i.op).res i.res bound 41 = 0 → ws2 = ([] ++ mustW (refD i.op).ty i.ty) ++ mustW (refD i.op).res i.res ∧ room2 = 0 + b2n (refD i.op).ty + b2n (refD i.op).res) (hl : ws2.length ≤ 2) (h0 : 0 ≤ room2) (hr : room2 ≤ 2) : RW bound i 0 ws2 room2 (idH (refD i.op).res i.res bound 41) := by
  refine ⟨fun he => ?_, fun he => by rw [faultF_eq hs, if_neg (fun e => e h1), if_pos he], by omega, h0, by omega⟩
  obtain ⟨e1, e2⟩ := h2 he
  refine ⟨h1, he, rfl, ?_, ?_⟩
  · rw [e1]; simp [headW, mustW]
  · rw [e2]; simp [sumR]
theorem RW.skip {k : Nat} {ws : List Int} {room e : Int} (h : RW bound i k ws room e) (he : e ≠ 0) (hk : k < i.args.length) : RW bound i (k + 1) ws room e := by
  have hs := sumR_step hk
  exact ⟨fun h2 => absurd h2 he, h.err, by have := h.len; omega, h.r0, by have := h.r1; omega⟩
theorem RW.step {k : Nat} {ws ws2 : List Int} {room room2 : Int} (h : RW bound i k ws room 0) (hs : (refS i.op).isSome = true) (hk : k < i.args.length)
    (hE : wrongA (letterS (refD i.op) (k : Int)) (i.args.getD k zeroA) bound = 0 → ws2 = ws ++ argW (i.args.getD k zeroA) ∧ room2 = room + (argRoom (i.args.getD k zeroA) : Int)) (hl : ws2.length ≤ ws.length + argRoom (i.args.getD k zeroA)) (h0 : 0 ≤ room2) (hr : room2 ≤ room + (argRoom (i.args.getD k zeroA) : Int)) :
    RW bound i (k + 1) ws2 room2 (wrongA (letterS (refD i.op) (k : Int)) (i.args.getD k zeroA) bound) := by
  have hsum := sumR_step hk
  have ho := h.ok rfl
  have ht := wrongL_take hk ho.2.2.1
  refine ⟨fun he => ?_, fun he => ?_, by have := h.len; omega, h0, by have := h.r1; omega⟩
  · obtain ⟨e1, e2⟩ := hE he
    refine ⟨ho.1, ho.2.1, ht.1.trans he, ?_, ?_⟩
    · rw [e1, ho.2.2.2.1, take_getD2 (d := zeroA) hk]; simp
    · rw [e2, ho.2.2.2.2, hsum]; omega
  · rw [faultF_eq hs, if_neg (fun e => e ho.1), if_neg (fun e => e ho.2.1), if_pos (by rw [ht.2 he]; exact he), ht.2 he]
theorem RW.full {ws : List Int} {room : Int} (h : RW bound i i.args.length ws room 0) (hs : (refS i.op).isSome = true) : ws = wordsI (refD i.op) i ∧ room + 1 = (roomI (refD i.op) i.args : Int) ∧ faultF bound i = if wholeE i.op i.args ≠ 0 then wholeE i.op i.args else if roomI (refD i.op) i.args > 65535 then 25 else 0 := by
  have ho := h.ok rfl
  rw [List.take_length] at ho
  refine ⟨ho.2.2.2.1, ?_, ?_⟩
  · rw [ho.2.2.2.2]; unfold sumR roomI; rw [List.take_length]; omega
  · rw [faultF_eq hs, if_neg (fun e => e ho.1), if_neg (fun e => e ho.2.1), if_neg (fun e => e ho.2.2.1), wholeE_of hs (wrongL_none ho.2.2.1)]
    by_cases hf : offR (refD i.op) i.args.length
    · rw [if_pos hf, if_pos hf, if_pos (by decide)]
    · rw [if_neg hf, if_neg hf, ite_ne_zero_self]
theorem rawF_err {e : Int} (h : faultF bound i = e) (he : e ≠ 0) : rawF bound i = ((0, []), e) := by unfold rawF; rw [h, if_pos he]
theorem rawF_ok (h : faultF bound i = 0) : rawF bound i = ((i.op, wordsI (refD i.op) i), 0) := by unfold rawF; rw [if_neg (fun e => e h)]
end
end Go.SK
namespace Go.SK
theorem wrongA_eq {c bound : Int} {a : ArgP} (h : ¬ (c = 0 ∨ a.kind ≠ kindS c)) (h2 : ¬ ((a.kind = 3 ∧ a.n ≠ 0) ∨ (a.kind ≠ 3 ∧ a.s ≠ []))) : wrongA c a bound = if a.kind = 1 ∧ (a.n = 0 ∨ a.n ≥ bound) then 43 else if a.kind = 4 ∧ (namesL.find? (enN c a.n)).isSome = false then 31 else textE a.s := by
  have e1 : (a.kind = 1 ∧ idE a.n bound ≠ 0) ↔ (a.kind = 1 ∧ (a.n = 0 ∨ a.n ≥ bound)) := by rw [idE_ne]
  have e2 : (a.kind = 4 ∧ enumE c a.n ≠ 0) ↔ (a.kind = 4 ∧ (namesL.find? (enN c a.n)).isSome = false) := by
    have : enumE c a.n ≠ 0 ↔ (namesL.find? (enN c a.n)).isSome = false := by
      rw [Ne, enumE_zero]; cases (namesL.find? (enN c a.n)).isSome <;> simp
    rw [this]
  unfold wrongA
  rw [if_neg h, if_neg h2]
  by_cases k1 : a.kind = 1 ∧ (a.n = 0 ∨ a.n ≥ bound)
  · rw [if_pos (e1.2 k1), if_pos k1]
  · rw [if_neg (fun x => k1 (e1.1 x)), if_neg k1]
    by_cases k4 : a.kind = 4 ∧ (namesL.find? (enN c a.n)).isSome = false
    · rw [if_pos (e2.2 k4), if_pos k4]
    · rw [if_neg (fun x => k4 (e2.1 x)), if_neg k4]; rfl
theorem textE_hit {s : List UInt8} {i : Nat} (hi : i < s.length) (hz : s.getD i 0 = 0) (hn : ∀ j, j < i → s.getD j 0 ≠ 0) : textE s = 13 := by
  unfold textE; rw [if_pos]; rw [zero_at hi hz hn]; omega
theorem textE_none {s : List UInt8} (hn : ∀ j, j < s.length → s.getD j 0 ≠ 0) : textE s = 0 := by
  unfold textE; rw [if_neg (fun h => h (zero_none hn))]
end Go.SK
namespace Go.SK
open Go.RowKit Go.ChangeShapes Go.WideShapes Go.ChangeAt
def shapeG (bound : Int) : Nat → Nat → List InstL → Int × Int
  | _, _, [] => (0, 0)
  | n, k, i :: is => if faultF bound i ≠ 0 then (faultF bound i, (k : Int)) else if n + roomI (refD i.op) i.args > 1048576 then (4, (k : Int)) else shapeG bound (n + roomI (refD i.op) i.args) (k + 1) is
def shapeF (bound : Int) (l : List InstL) : Int × Int := if bound = 0 ∨ bound > 65536 then (24, 0) else shapeG bound 5 0 l
abbrev rawsF (bound : Int) (l : List InstL) : List RawL := l.map fun i => (rawF bound i).1
def encodeF (gn bd : Int) (l : List InstL) : List UInt8 × (Int × Int) := if (shapeF bd l).1 ≠ 0 then ([], shapeF bd l) else (joinW (writeW gn bd (rawsF bd l)), (0, 0))
def zeroIP : InstL := ⟨0, 0, 0, []⟩
section
variable {bound : Int}
theorem rawF_fault {i : InstL} : (rawF bound i).2 = faultF bound i := by
  unfold rawF; split
  · rfl
  · rename_i h; exact (Classical.not_not.1 h).symm
theorem fault_parts {i : InstL} (h : faultF bound i = 0) : (refS i.op).isSome = true ∧ idH (refD i.op).ty i.ty bound 40 = 0 ∧ idH (refD i.op).res i.res bound 41 = 0 ∧ wrongL (refD i.op) bound 0 i.args = 0 ∧ ¬ offR (refD i.op) i.args.length ∧ roomI (refD i.op) i.args ≤ 65535 := by
  cases hs : (refS i.op).isSome with
  | false => rw [faultF_op hs] at h; cases h
  | true =>
    rw [faultF_eq hs] at h
    split at h
    · rename_i h1; exact absurd h h1
    · rename_i h1
      split at h
      · rename_i h2; exact absurd h h2
      · rename_i h2
        split at h
        · rename_i h3; exact absurd h h3
        · rename_i h3
          split at h
          · cases h
          · rename_i h4
            split at h
            · cases h
            · rename_i h5
              exact ⟨rfl, Classical.not_not.1 h1, Classical.not_not.1 h2, Classical.not_not.1 h3, h4, by omega⟩
theorem wrongL_all {fm : FormL} : ∀ (l : List ArgP) (k : Nat), wrongL fm bound k l = 0 → ∀ a ∈ l, ∃ c : Int, wrongA c a bound = 0
  | [], _, _, a, h => by cases h
  | x :: l, k, h, a, ha => by
    rw [wrongL] at h
    split at h
    · rename_i h1; exact absurd h h1
    · rename_i h1
      cases ha with
      | head => exact ⟨_, Classical.not_not.1 h1⟩
      | tail _ ha => exact wrongL_all l (k + 1) h a ha
theorem wrongA_zero {c : Int} {a : ArgP} (h : wrongA c a bound = 0) : c ≠ 0 ∧ a.kind = kindS c ∧ (a.kind = 3 → a.n = 0) ∧ (a.kind ≠ 3 → a.s = []) ∧ (a.kind = 1 → idE a.n bound = 0) ∧ (a.kind = 4 → enumE c a.n = 0) ∧ zeroAt a.s = a.s.length := by
  unfold wrongA at h
  split at h
  · cases h
  · rename_i h1
    split at h
    · cases h
    · rename_i h2
      split at h
      · cases h
      · rename_i h3
        split at h
        · cases h
        · rename_i h4
          split at h
          · cases h
          · rename_i h5
            exact ⟨fun e => h1 (.inl e), Classical.not_not.1 fun e => h1 (.inr e), fun k => Classical.not_not.1 fun e => h2 (.inl ⟨k, e⟩), fun k => Classical.not_not.1 fun e => h2 (.inr ⟨k, e⟩), fun k => Classical.not_not.1 fun e => h3 ⟨k, e⟩, fun k => Classical.not_not.1 fun e => h4 ⟨k, e⟩, Classical.not_not.1 h5⟩
theorem argRoom_sum {l : List ArgP} {a : ArgP} (h : a ∈ l) : argRoom a ≤ (l.map argRoom).sum := by
  induction l with
  | nil => cases h
  | cons x l ih =>
    simp only [List.map_cons, List.sum_cons]
    cases h with
    | head => omega
    | tail _ h => have := ih h; omega
theorem argW_len {c : Int} {a : ArgP} (h : wrongA c a bound = 0) (hr : argRoom a ≤ 65535) : (argW a).length = argRoom a := by
  have hz := (wrongA_zero h).2.2.2.2.2.2
  by_cases hk : a.kind = 3
  · rw [(argW_text hk).1, (argW_text hk).2]
    rw [(argW_text hk).2] at hr
    exact ofText_len (by unfold ofTextE; rw [if_neg (fun e => e hz), if_neg (by omega)])
  · rw [(argW_one hk).1, (argW_one hk).2]; rfl
theorem flatW_len : ∀ {l : List ArgP}, (∀ a ∈ l, (argW a).length = argRoom a) → (l.flatMap argW).length = (l.map argRoom).sum
  | [], _ => rfl
  | a :: l, h => by
    simp only [List.flatMap_cons, List.length_append, List.map_cons, List.sum_cons]
    rw [h a (.head _), flatW_len fun b hb => h b (.tail _ hb)]
theorem words_room {i : InstL} (h : faultF bound i = 0) : (wordsI (refD i.op) i).length + 1 = roomI (refD i.op) i.args ∧ (wordsI (refD i.op) i).length < 65535 := by
  have hp := fault_parts h
  have hl : (wordsI (refD i.op) i).length + 1 = roomI (refD i.op) i.args := by
    have hr := hp.2.2.2.2.2
    unfold wordsI roomI at *
    rw [List.length_append, flatW_len (fun a ha => by
      obtain ⟨c, hc⟩ := wrongL_all _ _ hp.2.2.2.1 a ha
      exact argW_len hc (by have := argRoom_sum ha; omega))]
    have : (headW (refD i.op) i.ty i.res).length = b2n (refD i.op).ty + b2n (refD i.op).res := by
      unfold headW b2n; split <;> split <;> simp
    omega
  exact ⟨hl, by omega⟩
theorem shapeG_step {n k : Nat} {l : List InstL} {j : Nat} (h : j < l.length) : shapeG bound n k (l.drop j) = if faultF bound (l.getD j zeroIP) ≠ 0 then (faultF bound (l.getD j zeroIP), (k : Int)) else if n + roomI (refD (l.getD j zeroIP).op) (l.getD j zeroIP).args > 1048576 then (4, (k : Int)) else shapeG bound (n + roomI (refD (l.getD j zeroIP).op) (l.getD j zeroIP).args) (k + 1) (l.drop (j + 1)) := by
  have e : l.drop j = l.getD j zeroIP :: l.drop (j + 1) := by
    rw [List.drop_eq_getElem_cons h]; simp [List.getD, h]
  rw [e, shapeG]
theorem shapeG_end {n k : Nat} {l : List InstL} : shapeG bound n k (l.drop l.length) = (0, 0) := by rw [List.drop_of_length_le (Nat.le_refl _)]; rfl
theorem shapeF_bound {l : List InstL} (h : bound = 0 ∨ bound > 65536) : shapeF bound l = (24, 0) := if_pos h
theorem shapeF_in {l : List InstL} (h : ¬ bound = 0) (h2 : ¬ bound > 65536) : shapeF bound l = shapeG bound 5 0 l := if_neg fun h3 => h3.elim h h2
theorem shapeG_good : ∀ {l : List InstL} {n k : Nat}, n ≤ 1048576 → (shapeG bound n k l).1 = 0 → (∀ i ∈ l, faultF bound i = 0) ∧ shapeG bound n k l = (0, 0) ∧ (cntF n k ((rawsF bound l).map lenL)).2.1 = 0
  | [], n, k, hn, h => ⟨by simp, rfl, rfl⟩
  | i :: is, n, k, hn, h => by
    rw [shapeG] at h ⊢
    split at h
    · rename_i h1; exact absurd h h1
    · rename_i h1
      have hf := Classical.not_not.1 h1
      split at h
      · cases h
      · rename_i h2
        rw [if_neg h1, if_neg h2]
        have ih := shapeG_good (l := is) (by omega) h
        have hw := words_room hf
        refine ⟨fun x hx => by cases hx with
          | head => exact hf
          | tail _ hx => exact ih.1 x hx, ih.2.1, ?_⟩
        simp only [rawsF, List.map_cons] at ih ⊢
        rw [rawF_ok hf, cntF, if_neg (by simp only [lenL]; omega), if_neg (by simp only [lenL]; omega)]
        have e : n + 1 + lenL (i.op, wordsI (refD i.op) i) = n + roomI (refD i.op) i.args := by simp only [lenL]; omega
        rw [e]; exact ih.2.2
theorem encode_good {gn : Int} {l : List InstL} (h : (shapeF bound l).1 = 0) : encodeF gn bound l = (joinW (writeW gn bound (rawsF bound l)), (0, 0)) ∧ writeF gn bound (rawsF bound l) = (writeW gn bound (rawsF bound l), (0, 0)) ∧ shapeF bound l = (0, 0) ∧ (∀ i ∈ l, faultF bound i = 0) ∧ ¬ bound = 0 ∧ ¬ bound > 65536 := by
  have hb : ¬ (bound = 0 ∨ bound > 65536) := fun hb => by rw [shapeF_bound hb] at h; cases h
  have h1 : ¬ bound = 0 := fun e => hb (.inl e)
  have h2 : ¬ bound > 65536 := fun e => hb (.inr e)
  have hg : (shapeG bound 5 0 l).1 = 0 := by rw [shapeF_in h1 h2] at h; exact h
  have hh := shapeG_good (by decide) hg
  exact ⟨if_neg fun e => e h, writeF_ok h1 h2 hh.2.2, by rw [shapeF_in h1 h2]; exact hh.2.1, hh.1, h1, h2⟩
end
end Go.SK
namespace Go.SK
theorem mapL_getD {l : List InstP} {i : Nat} (h : i < l.length) : (l.map InstP.L).getD i zeroIP = (l.getD i zeroI).L := map_getD2 InstP.L zeroI h
theorem rawsF_take {bound : Int} {l : List InstP} {i : Nat} (h : i < l.length) : rawsF bound ((l.map InstP.L).take (i + 1)) = rawsF bound ((l.map InstP.L).take i) ++ [(rawF bound (l.getD i zeroI).L).1] := by
  rw [take_getD2 (d := zeroIP) (by rw [List.length_map]; exact h), mapL_getD h]; simp [rawsF]
theorem rawF_len {bound : Int} {i : InstL} {r : RawL} {e : Int} (h : rawF bound i = (r, e)) : e = faultF bound i ∧ (e = 0 → r.2.length + 1 = roomI (refD i.op) i.args ∧ r.2.length < 65535 ∧ r.1 = i.op) ∧ (e ≠ 0 → r = (0, [])) := by
  have hf := rawF_fault (bound := bound) (i := i)
  rw [h] at hf
  refine ⟨hf, fun he => ?_, fun he => ?_⟩
  · have h0 : faultF bound i = 0 := by rw [← hf]; exact he
    rw [rawF_ok h0] at h
    injection h with h1 h2
    rw [← h1]
    have := words_room h0
    exact ⟨this.1, this.2, rfl⟩
  · rw [rawF_err hf.symm he] at h
    injection h with h1 h2
    exact h1.symm
end Go.SK
namespace Go.SK
theorem encode_len {bound gn : Int} {l : List InstL} (h : (shapeF bound l).1 = 0) : (writeW gn bound (rawsF bound l)).length ≤ 1048576 := by
  have he := encode_good (gn := gn) h
  have hg : (shapeG bound 5 0 l).1 = 0 := by rw [shapeF_in he.2.2.2.2.1 he.2.2.2.2.2] at h; exact h
  have hh := shapeG_good (by decide) hg
  rw [writeW_len]
  exact (cnt_good (by decide) hh.2.2).2.2
end Go.SK
namespace Go.SK
theorem Wd.app {l m : List Int} (h1 : Wd l) (h2 : Wd m) : Wd (l ++ m) := fun x hx => (List.mem_append.1 hx).elim (h1 x) (h2 x)
theorem Wd.nil : Wd [] := fun x hx => by cases hx
theorem Wd.one {x : Int} (h : 0 ≤ x ∧ x < 4294967296) : Wd [x] := fun y hy => by cases hy with
  | head => exact h
  | tail _ h => cases h
end Go.SK
namespace Go.SK
open Go.RowKit Go.ChangeShapes Go.WideShapes Go.ChangeAt
def oneL : List InstL := [⟨128, 1, 2, [⟨1, 3, []⟩, ⟨1, 4, []⟩]⟩]
structure Small (l : List InstP) : Prop where
  len : l.length ≤ 3000000000000
  op : ∀ i ∈ l, 0 ≤ i.op
  op2 : ∀ i ∈ l, i.op < 65536
  sum : ∀ i ∈ l, (i.args.map argRoom).sum ≤ 900000000
  txt : ∀ i ∈ l, ∀ a ∈ i.args, a.s.length ≤ 100000000000
theorem Small.args {l : List InstP} (h : Small l) : ∀ i ∈ l, i.args.length ≤ 900000000 := fun i hi => Nat.le_trans (len_sum i.args) (h.sum i hi)
theorem Small.of {l m : List InstP} (h : l.map InstP.L = m.map InstP.L) (hm : Small m) : Small l := by
  have key : ∀ i ∈ l, ∃ j ∈ m, j.op = i.op ∧ j.args = i.args := fun i hi => by
    have : i.L ∈ m.map InstP.L := h ▸ List.mem_map_of_mem hi
    obtain ⟨j, hj, he⟩ := List.mem_map.1 this
    exact ⟨j, hj, congrArg InstL.op he, congrArg InstL.args he⟩
  refine ⟨by rw [insts_len h]; exact hm.len, fun i hi => ?_, fun i hi => ?_, fun i hi => ?_, fun i hi => ?_⟩ <;> obtain ⟨j, hj, h1, h2⟩ := key i hi
  · rw [← h1]; exact hm.op j hj
  · rw [← h1]; exact hm.op2 j hj
  · rw [← h2]; exact hm.sum j hj
  · rw [← h2]; exact hm.txt j hj
theorem Small.one {l : List InstP} (h : l.map InstP.L = oneL) : Small l :=
  Small.of (m := [⟨128, 1, 2, none, 0, [⟨1, 3, []⟩, ⟨1, 4, []⟩]⟩]) h ⟨by decide, by decide, by decide, by decide, by decide⟩
theorem St.starUncons {w0 w : World} {M : Nat → Prop} {X L D : List Res} {r : Res} (h : St w0 M (Res.star (r :: X) :: L) D w) : St w0 M (r :: Res.star X :: L) D w := by
  have h1 : St w0 M (r :: (X ++ L)) D w := h.unpack
  have h2 : St w0 M (X ++ r :: L) D w := h1.perm List.perm_middle.symm
  exact (St.pack (L1 := X) h2).perm (List.Perm.swap _ _ _)
theorem drop_getD2 {α : Type} {l : List α} {k : Nat} (d : α) (h : k < l.length) : l.drop k = l.getD k d :: l.drop (k + 1) := by
  rw [List.drop_eq_getElem_cons h]; simp [List.getD, h]
end Go.SK
namespace Go.SK
open Go.RowKit Go.ChangeShapes Go.WideShapes Go.ChangeAt
abbrev SQ := @run_seq
abbrev RG := @run_region
abbrev NL := @RunL.nil
abbrev CN := @RunL.cons
abbrev TK := @RunL.take
abbrev OM := @RunL.omit
abbrev TP := @RV.tmp
section
variable {P : Program} {b : Base} {k : List Item} {f : Nat → Value} {w : World} {E : Frame → World → Prop} {ops : Array Oper} {l : List Oper} {d : Option Tmp} {ty : TypeId} {pos : String} {aft : Array Edge} {x : Operand}
theorem SR {id : Nat} {y : Code} (h : RunL P b l.toArray l (.code y :: k) f w E) : Run P b (.code (.seq (.region id l.toArray false) y) :: k) f w E := run_seq (run_region h)
theorem NSR {l2 : List Oper} {id : Nat} {y : Code} (h : RunL P b l2.toArray l2 (.code y :: k) f w E) : RunL P b ops [] (.code (.seq (.region id l2.toArray false) y) :: k) f w E := RunL.nil (run_seq (run_region h))
theorem NR {l2 : List Oper} {id : Nat} (h : RunL P b l2.toArray l2 k f w E) : RunL P b ops [] (.code (.region id l2.toArray false) :: k) f w E := RunL.nil (run_region h)
abbrev mvO (x : Operand) (d : Option Tmp) (ty : TypeId) (pos : String) (aft : Array Edge) : Oper := { dst := d, op := .move x, type := ty, pos := pos, after := aft, guard := none }
abbrev asO (x : Operand) (d : Option Tmp) (ty : TypeId) (pos : String) (aft : Array Edge) : Oper := { dst := d, op := .assign x, type := ty, pos := pos, after := aft, guard := none }
theorem MI {a : Int} (h : ev b.n f x = .int .i64 a) (hk : RunL P b ops l k (putF f d (.int .i64 a)) w E) : RunL P b ops (mvO x d ty pos aft :: l) k f w E := RunL.cons (Op1.move h hk)
theorem AI {a : Int} (h : ev b.n f x = .int .i64 a) (hk : RunL P b ops l k (putF f d (.int .i64 a)) w E) : RunL P b ops (asO x d ty pos aft :: l) k f w E := RunL.cons (Op1.assign h hk)
theorem MU {a : Int} (h : ev b.n f x = .int .u32 a) (hk : RunL P b ops l k (putF f d (.int .u32 a)) w E) : RunL P b ops (mvO x d ty pos aft :: l) k f w E := RunL.cons (Op1.move h hk)
theorem AU {a : Int} (h : ev b.n f x = .int .u32 a) (hk : RunL P b ops l k (putF f d (.int .u32 a)) w E) : RunL P b ops (asO x d ty pos aft :: l) k f w E := RunL.cons (Op1.assign h hk)
theorem MH {a : Int} (h : ev b.n f x = .int .u16 a) (hk : RunL P b ops l k (putF f d (.int .u16 a)) w E) : RunL P b ops (mvO x d ty pos aft :: l) k f w E := RunL.cons (Op1.move h hk)
theorem AH {a : Int} (h : ev b.n f x = .int .u16 a) (hk : RunL P b ops l k (putF f d (.int .u16 a)) w E) : RunL P b ops (asO x d ty pos aft :: l) k f w E := RunL.cons (Op1.assign h hk)
theorem MC {a : Int} (h : ev b.n f x = .int .u8 a) (hk : RunL P b ops l k (putF f d (.int .u8 a)) w E) : RunL P b ops (mvO x d ty pos aft :: l) k f w E := RunL.cons (Op1.move h hk)
theorem AC {a : Int} (h : ev b.n f x = .int .u8 a) (hk : RunL P b ops l k (putF f d (.int .u8 a)) w E) : RunL P b ops (asO x d ty pos aft :: l) k f w E := RunL.cons (Op1.assign h hk)
theorem MB {a : Bool} (h : ev b.n f x = .bool a) (hk : RunL P b ops l k (putF f d (.bool a)) w E) : RunL P b ops (mvO x d ty pos aft :: l) k f w E := RunL.cons (Op1.move h hk)
theorem AB {a : Bool} (h : ev b.n f x = .bool a) (hk : RunL P b ops l k (putF f d (.bool a)) w E) : RunL P b ops (asO x d ty pos aft :: l) k f w E := RunL.cons (Op1.assign h hk)
theorem MS {a : List UInt8} (h : ev b.n f x = str a) (hk : RunL P b ops l k (putF f d (str a)) w E) : RunL P b ops (mvO x d ty pos aft :: l) k f w E := RunL.cons (Op1.move h hk)
theorem AS {a : List UInt8} (h : ev b.n f x = str a) (hk : RunL P b ops l k (putF f d (str a)) w E) : RunL P b ops (asO x d ty pos aft :: l) k f w E := RunL.cons (Op1.assign h hk)
theorem ML {a : Option Addr} {n c : Nat} (h : ev b.n f x = .slice a n c) (hk : RunL P b ops l k (putF f d (.slice a n c)) w E) : RunL P b ops (mvO x d ty pos aft :: l) k f w E := RunL.cons (Op1.move h hk)
theorem AL {a : Option Addr} {n c : Nat} (h : ev b.n f x = .slice a n c) (hk : RunL P b ops l k (putF f d (.slice a n c)) w E) : RunL P b ops (asO x d ty pos aft :: l) k f w E := RunL.cons (Op1.assign h hk)
theorem MP {a c : Nat} (h : ev b.n f x = .pointer (some ⟨a, c, none⟩)) (hk : RunL P b ops l k (putF f d (.pointer (some ⟨a, c, none⟩))) w E) : RunL P b ops (mvO x d ty pos aft :: l) k f w E := RunL.cons (Op1.move h hk)
theorem AP {a c : Nat} (h : ev b.n f x = .pointer (some ⟨a, c, none⟩)) (hk : RunL P b ops l k (putF f d (.pointer (some ⟨a, c, none⟩))) w E) : RunL P b ops (asO x d ty pos aft :: l) k f w E := RunL.cons (Op1.assign h hk)
end
section
variable {P : Program} {ty : TypeId} {ρ : Operand → Value} {w0 w : World} {C : Value → World → Prop} {M : Nat → Prop} {L L' D : List Res} {T T' : TypeId} {d : TypeDesc} {sz bytes : Nat} {zs : List Value} {x y : Operand} {b off : Nat} {v : Value} {l vs l' : List Value}
theorem SO (hst : St w0 M L D w) (hT : TyF P T d sz bytes zs) (hx : ρ x = .pointer (some ⟨b, off, none⟩)) (hy : ρ y = v) (hsel : Sel (Res.row b T' l) (Res.row b T' l') L L') (h : ∀ w' : World, St w0 M L' D w' → C undef w') (hv : v.cells = vs.toArray := by exact rfl) (hn : vs.length = sz := by exact rfl) (ho : vs.all okCell = true := by exact rfl) (hp : Put l off vs l' := by repeat (first | exact Put.nil | apply Put.put | apply Put.skip)) : Op1 P (.store T x y) ty ρ w C := Op1.store hst hT hx hy hv hn ho hsel hp h
theorem Fills.c {place : Nat → Option (Nat × Nat)} {l vs l1 l' : List Value} {i : Nat} {x : Operand} {off size : Nat} {v : Value} {rest : List (Nat × Operand)} (hx : ρ x = v) (hp : place i = some (off, size) := by exact rfl) (hv : v.cells = vs.toArray := by exact rfl) (hn : vs.length = size := by exact rfl) (hs : Nat.ble 1 size = true := by exact rfl) (hput : Put l off vs l1 := by repeat (first | exact Put.nil | apply Put.put | apply Put.skip)) (h : Fills ρ place l1 rest l') : Fills ρ place l ((i, x) :: rest) l' := .cons hp hx hv hn hs hput h
theorem Ret.det {g : FuncId} {args : Array Value} (h : Ret P g args w (fun u w' => u = v ∧ St w NoM [] [] w')) (hst : St w0 M L D w) (hk : ∀ w' : World, St w0 M L D w' → C v w') : Ret P g args w C := h.mono fun _ w' ⟨e, hp⟩ => by subst e; exact hk w' (hst.keepc hp)
theorem Ret.detE {g : FuncId} {args : Array Value} {v2 : Value} (h : Ret P g args w (fun u w' => u = v ∧ St w NoM [] [] w')) (e : v = v2) (hst : St w0 M L D w) (hk : ∀ w' : World, St w0 M L D w' → C v2 w') : Ret P g args w C := by subst e; exact Ret.det h hst hk
end
end Go.SK
namespace Go.SK
open Go.RowKit Go.ChangeShapes Go.WideShapes Go.ChangeAt
def FieldIs (P : Program) (f : Field) (off n : Nat) (d : TypeDesc) : Prop := f.offset = off ∧ P.cellsOf f.type = n ∧ P.underlying f.type = some d
structure MdTys (P : Program) (M I A : TypeId) where
  m0 : Field
  m1 : Field
  m2 : Field
  i0 : Field
  i1 : Field
  i2 : Field
  i3 : Field
  a0 : Field
  a1 : Field
  a2 : Field
  hM : P.underlying M = some (.struct #[m0, m1, m2])
  hI : P.underlying I = some (.struct #[i0, i1, i2, i3])
  hA : P.underlying A = some (.struct #[a0, a1, a2])
  fm0 : FieldIs P m0 0 1 (.int .u32)
  fm1 : FieldIs P m1 1 1 (.int .u32)
  fm2 : FieldIs P m2 2 1 (.slice I)
  fi0 : FieldIs P i0 0 1 (.int .u16)
  fi1 : FieldIs P i1 1 1 (.int .u32)
  fi2 : FieldIs P i2 2 1 (.int .u32)
  fi3 : FieldIs P i3 3 1 (.slice A)
  fa0 : FieldIs P a0 0 1 (.int .u8)
  fa1 : FieldIs P a1 1 1 (.int .u32)
  fa2 : FieldIs P a2 2 1 .string
  cM : P.cellsOf M = 3
  cI : P.cellsOf I = 4
  cA : P.cellsOf A = 3
  bI : P.bytesOf I = 40
  bA : P.bytesOf A = 24
section
variable {H : Type} {enc : TypeId × Value → H} {P : Program} {w : World} {base : Nat} {spare : Nat → Bool} {held : Bool} {M I A : TypeId}
theorem trod_struct3 {t : TypeId} {f0 f1 f2 : Field} {fuel : Nat} {cs : List Value} {x : DataW H × List MemPlace} (ht : P.underlying t = some (.struct #[f0, f1, f2])) (h : DataW.trod enc P w base spare held fuel t cs = some x) :
    ∃ y0 y1 y2 n, x.1 = .agg [y0.1, y1.1, y2.1] ∧ cs.length = P.cellsOf t ∧ DataW.trod enc P w base spare held n f0.type ((cs.drop f0.offset).take (P.cellsOf f0.type)) = some y0 ∧
      DataW.trod enc P w base spare held n f1.type ((cs.drop f1.offset).take (P.cellsOf f1.type)) = some y1 ∧ DataW.trod enc P w base spare held n f2.type ((cs.drop f2.offset).take (P.cellsOf f2.type)) = some y2 := by
  obtain ⟨xs, n, _, rfl, hl, hlen, hf⟩ := DataW.trod_struct ht h
  match xs, hlen with
  | [y0, y1, y2], _ => exact ⟨y0, y1, y2, n, rfl, hl, by simpa using hf 0 f0 rfl, by simpa using hf 1 f1 rfl, by simpa using hf 2 f2 rfl⟩
theorem trod_struct4 {t : TypeId} {f0 f1 f2 f3 : Field} {fuel : Nat} {cs : List Value} {x : DataW H × List MemPlace} (ht : P.underlying t = some (.struct #[f0, f1, f2, f3])) (h : DataW.trod enc P w base spare held fuel t cs = some x) :
    ∃ y0 y1 y2 y3 n, x.1 = .agg [y0.1, y1.1, y2.1, y3.1] ∧ cs.length = P.cellsOf t ∧ DataW.trod enc P w base spare held n f0.type ((cs.drop f0.offset).take (P.cellsOf f0.type)) = some y0 ∧
      DataW.trod enc P w base spare held n f1.type ((cs.drop f1.offset).take (P.cellsOf f1.type)) = some y1 ∧ DataW.trod enc P w base spare held n f2.type ((cs.drop f2.offset).take (P.cellsOf f2.type)) = some y2 ∧
      DataW.trod enc P w base spare held n f3.type ((cs.drop f3.offset).take (P.cellsOf f3.type)) = some y3 := by
  obtain ⟨xs, n, _, rfl, hl, hlen, hf⟩ := DataW.trod_struct ht h
  match xs, hlen with
  | [y0, y1, y2, y3], _ => exact ⟨y0, y1, y2, y3, n, rfl, hl, by simpa using hf 0 f0 rfl, by simpa using hf 1 f1 rfl, by simpa using hf 2 f2 rfl, by simpa using hf 3 f3 rfl⟩
theorem list3 {α : Type} {l : List α} (h : l.length = 3) : ∃ a b c, l = [a, b, c] := by
  match l, h with
  | [a, b, c], _ => exact ⟨a, b, c, rfl⟩
theorem list4 {α : Type} {l : List α} (h : l.length = 4) : ∃ a b c d, l = [a, b, c, d] := by
  match l, h with
  | [a, b, c, d], _ => exact ⟨a, b, c, d, rfl⟩
theorem wf_u8 {n : Int} (h : (Lit.int .u8 n).wf = true) : 0 ≤ n ∧ n ≤ 255 := by
  simpa [Lit.wf, IntKind.min, IntKind.max, IntKind.signed, IntKind.bits] using h
theorem wf_u16 {n : Int} (h : (Lit.int .u16 n).wf = true) : 0 ≤ n ∧ n ≤ 65535 := by
  simpa [Lit.wf, IntKind.min, IntKind.max, IntKind.signed, IntKind.bits] using h
theorem wf_u32 {n : Int} (h : (Lit.int .u32 n).wf = true) : 0 ≤ n ∧ n ≤ 4294967295 := by
  simpa [Lit.wf, IntKind.min, IntKind.max, IntKind.signed, IntKind.bits] using h
def ArgP.good (a : ArgP) : Prop := (0 ≤ a.kind ∧ a.kind ≤ 255) ∧ (0 ≤ a.n ∧ a.n ≤ 4294967295)
def relA {H : Type} (a : ArgP) (d : DataW H) : Prop := d = .agg [.lit (.int .u8 a.kind), .lit (.int .u32 a.n), .lit (.string a.s)]
def relL {H : Type} {α : Type} (r : α → DataW H → Prop) (l : List α) (d : DataW H) : Prop := (d = .nil ∧ l = []) ∨ ∃ elems sp, d = .slice elems sp ∧ elems.length = l.length ∧ ∀ (i : Nat) (a : α) (y : DataW H), l[i]? = some a → elems[i]? = some y → r a y
theorem open_argM (T : MdTys P M I A) : ∀ fuel cs (y : DataW H × List MemPlace), DataW.trod enc P w base spare held fuel A cs = some y → ∃ a : ArgP, cs = argC a ∧ a.good ∧ relA a y.1 := fun fuel cs y h => by
  obtain ⟨y0, y1, y2, n, hy, hl, h0, h1, h2⟩ := trod_struct3 T.hA h
  rw [T.cA] at hl
  obtain ⟨c0, c1, c2, rfl⟩ := list3 hl
  rw [T.fa0.1, T.fa0.2.1] at h0
  rw [T.fa1.1, T.fa1.2.1] at h1
  rw [T.fa2.1, T.fa2.2.1] at h2
  obtain ⟨k, e0, rfl, w0⟩ := DataW.trod_int T.fa0.2.2 h0
  obtain ⟨m, e1, rfl, w1⟩ := DataW.trod_int T.fa1.2.2 h1
  obtain ⟨s, e2, rfl, w2⟩ := DataW.trod_string T.fa2.2.2 h2
  simp only [List.drop_zero, List.drop_succ_cons, List.take_succ_cons, List.take_zero, List.cons.injEq, and_true] at e0 e1 e2
  subst e0; subst e1; subst e2
  exact ⟨⟨k, m, s.data.toList⟩, by rw [argC, str_of s], ⟨wf_u8 w0, wf_u32 w1⟩, hy⟩
def InstP.good (w : World) (i : InstP) : Prop := (0 ≤ i.op ∧ i.op ≤ 65535) ∧ (0 ≤ i.ty ∧ i.ty ≤ 4294967295) ∧ (0 ≤ i.res ∧ i.res ≤ 4294967295) ∧ (∀ a ∈ i.args, a.good) ∧ (Res.rargs i).holds w
def relI {H : Type} (i : InstP) (d : DataW H) : Prop := ∃ da, d = .agg [.lit (.int .u16 i.op), .lit (.int .u32 i.ty), .lit (.int .u32 i.res), da] ∧ relL relA i.args da
theorem slice_one {t e : TypeId} {c : Value} {n : Nat} {y : DataW H × List MemPlace} (ht : P.underlying t = some (.slice e)) (h : DataW.trod enc P w base spare held n t [c] = some y) : c.cells.toList = [c] := by
  cases n with
  | zero => simp [DataW.trod] at h
  | succ n =>
    unfold DataW.trod at h
    rw [ht] at h
    split at h <;> simp_all
    all_goals first | rfl | (subst_vars; rfl) | skip
theorem open_instM (T : MdTys P M I A) : ∀ fuel cs (y : DataW H × List MemPlace), DataW.trod enc P w base spare held fuel I cs = some y → ∃ i : InstP, cs = instC i ∧ i.good w ∧ relI i y.1 := fun fuel cs y h => by
  obtain ⟨y0, y1, y2, y3, n, hy, hl, h0, h1, h2, h3⟩ := trod_struct4 T.hI h
  rw [T.cI] at hl
  obtain ⟨c0, c1, c2, c3, rfl⟩ := list4 hl
  rw [T.fi0.1, T.fi0.2.1] at h0
  rw [T.fi1.1, T.fi1.2.1] at h1
  rw [T.fi2.1, T.fi2.2.1] at h2
  rw [T.fi3.1, T.fi3.2.1] at h3
  obtain ⟨o, e0, rfl, w0⟩ := DataW.trod_int T.fi0.2.2 h0
  obtain ⟨t, e1, rfl, w1⟩ := DataW.trod_int T.fi1.2.2 h1
  obtain ⟨r, e2, rfl, w2⟩ := DataW.trod_int T.fi2.2.2 h2
  simp only [List.drop_zero, List.drop_succ_cons, List.take_succ_cons, List.take_zero, List.cons.injEq, and_true] at e0 e1 e2 h3
  subst e0; subst e1; subst e2
  obtain ⟨ao, cap, l, rfl, hb, hg, hR, hr⟩ := open_flat (g := argC) (good := ArgP.good) (rel := relA) (es := 3) T.fi3.2.2 T.cA (by decide) argC_len (open_argM T) (v := c3) (d := y3.1) (p := y3.2) ⟨n, (by rw [slice_one T.fi3.2.2 h3]; exact h3)⟩ (slice_one T.fi3.2.2 h3)
  exact ⟨⟨o, t, r, ao, cap, l⟩, rfl, ⟨wf_u16 w0, wf_u32 w1, wf_u32 w2, hg, hR⟩, ⟨y3.1, hy, hr⟩⟩
theorem open_mod (T : MdTys P M I A) {v : Value} {d : DataW H} {p : List MemPlace} (h : DataW.Trod enc P w base spare held M v d p) (hv : ∃ cs : List Value, v = .agg cs.toArray) :
    ∃ (ga ba : Int) (ao : Option Addr) (cap : Nat) (l : List InstP), v = .agg #[.int .u32 ga, .int .u32 ba, .slice ao l.length cap] ∧ (0 ≤ ga ∧ ga ≤ 4294967295) ∧ (0 ≤ ba ∧ ba ≤ 4294967295) ∧ (∀ i ∈ l, i.good w) ∧ (Res.rmod ao l).holds w ∧
      ∃ dm, d = .agg [.lit (.int .u32 ga), .lit (.int .u32 ba), dm] ∧ relL relI l dm := by
  obtain ⟨fuel, h⟩ := h
  obtain ⟨cs, rfl⟩ := hv
  replace h : DataW.trod enc P w base spare held fuel M cs = some (d, p) := h
  obtain ⟨y0, y1, y2, n, hy, hl, h0, h1, h2⟩ := trod_struct3 T.hM h
  rw [T.cM] at hl
  obtain ⟨c0, c1, c2, rfl⟩ := list3 hl
  rw [T.fm0.1, T.fm0.2.1] at h0
  rw [T.fm1.1, T.fm1.2.1] at h1
  rw [T.fm2.1, T.fm2.2.1] at h2
  obtain ⟨ga, e0, rfl, w0⟩ := DataW.trod_int T.fm0.2.2 h0
  obtain ⟨ba, e1, rfl, w1⟩ := DataW.trod_int T.fm1.2.2 h1
  simp only [List.drop_zero, List.drop_succ_cons, List.take_succ_cons, List.take_zero, List.cons.injEq, and_true] at e0 e1 h2
  subst e0; subst e1
  obtain ⟨ao, cap, l, rfl, hb, hg, hR, hr⟩ := open_flat (g := instC) (good := InstP.good w) (rel := relI) (es := 4) T.fm2.2.2 T.cI (by decide) instC_len (open_instM T) (v := c2) (d := y2.1) (p := y2.2) ⟨n, (by rw [slice_one T.fm2.2.2 h2]; exact h2)⟩ (slice_one T.fm2.2.2 h2)
  refine ⟨ga, ba, ao, cap, l, rfl, wf_u32 w0, wf_u32 w1, hg, fun r hr => ?_, y2.1, hy, hr⟩
  cases hr with
  | head => exact hR
  | tail _ hr =>
    obtain ⟨i, hi, rfl⟩ := List.mem_map.1 hr
    exact (hg i hi).2.2.2.2
end
end Go.SK
namespace Go.SK
open Go.RowKit Go.ChangeShapes Go.WideShapes Go.ChangeAt
structure BulkOk {H : Type} (f : DataW H → Nat) (fa : List (DataW H) → Nat) : Prop where
  str : ∀ b, b.length + 1 ≤ f (.lit (.string b))
  one : ∀ d, 1 ≤ f d
  agg : ∀ l, fa l + 1 ≤ f (.agg l)
  slice : ∀ l sp, fa l + 1 ≤ f (.slice l sp)
  cons : ∀ d r, fa (d :: r) = f d + fa r
section
variable {H : Type} {f : DataW H → Nat} {fa : List (DataW H) → Nat}
theorem bulk_sum (h : BulkOk f fa) {α : Type} {r : α → DataW H → Prop} {g : α → Nat} (hg : ∀ a y, r a y → g a ≤ f y) : ∀ (l : List α) (elems : List (DataW H)), elems.length = l.length → (∀ (i : Nat) (a : α) (y : DataW H), l[i]? = some a → elems[i]? = some y → r a y) → (l.map g).sum ≤ fa elems
  | [], elems, _, _ => Nat.zero_le _
  | a :: l, [], hl, _ => by simp at hl
  | a :: l, y :: elems, hl, hr => by
    have h1 := hg a y (hr 0 a y rfl rfl)
    have h2 := bulk_sum h hg l elems (by simpa using hl) (fun i b z hb hz => hr (i + 1) b z (by simpa using hb) (by simpa using hz))
    rw [h.cons, List.map_cons, List.sum_cons]
    omega
theorem bulk_rel (h : BulkOk f fa) {α : Type} {r : α → DataW H → Prop} {g : α → Nat} (hg : ∀ a y, r a y → g a ≤ f y) {l : List α} {d : DataW H} (hr : relL r l d) : (l.map g).sum ≤ f d := by
  rcases hr with ⟨rfl, rfl⟩ | ⟨elems, sp, rfl, hl, hr⟩
  · exact Nat.zero_le _
  · have := bulk_sum h hg l elems hl hr
    have := h.slice elems sp
    omega
theorem sum_mem {α : Type} {g : α → Nat} {l : List α} {a : α} (h : a ∈ l) : g a ≤ (l.map g).sum := by
  induction l with
  | nil => cases h
  | cons x l ih =>
    simp only [List.map_cons, List.sum_cons]
    cases h with
    | head => omega
    | tail _ h => have := ih h; omega
theorem sum_one {α : Type} (l : List α) : (l.map fun _ => 1).sum = l.length := by
  induction l with
  | nil => rfl
  | cons x l ih => simp only [List.map_cons, List.sum_cons, List.length_cons, ih]; omega
theorem bulk_arg (h : BulkOk f fa) : ∀ (a : ArgP) (y : DataW H), relA a y → argRoom a ≤ f y ∧ a.s.length ≤ f y := fun a y hr => by
  obtain rfl := hr
  have h1 := h.agg [.lit (.int .u8 a.kind), .lit (.int .u32 a.n), .lit (.string a.s)]
  rw [h.cons, h.cons, h.cons] at h1
  have h2 := h.str a.s
  have h3 := h.one (.lit (.int .u8 a.kind))
  unfold argRoom
  constructor
  · split <;> omega
  · omega
structure InstP.Tiny (i : InstP) : Prop where
  sum : (i.args.map argRoom).sum ≤ 1048576
  txt : ∀ a ∈ i.args, a.s.length ≤ 1048576
theorem bulk_inst0 (h : BulkOk f fa) : ∀ (i : InstP) (d : DataW H), relI i d → (i.args.map argRoom).sum ≤ f d ∧ (i.args.map fun a => a.s.length).sum ≤ f d := fun i d hr => by
  obtain ⟨da, rfl, hra⟩ := hr
  have h1 := bulk_rel h (fun a y hy => (bulk_arg h a y hy).1) hra
  have h2 := bulk_rel h (g := fun a : ArgP => a.s.length) (fun a y hy => (bulk_arg h a y hy).2) hra
  have h3 := h.agg [.lit (.int .u16 i.op), .lit (.int .u32 i.ty), .lit (.int .u32 i.res), da]
  rw [h.cons, h.cons, h.cons, h.cons] at h3
  omega
theorem bulk_mod (h : BulkOk f fa) {ga ba : Int} {l : List InstP} {d : DataW H} (hr : ∃ dm, d = .agg [.lit (.int .u32 ga), .lit (.int .u32 ba), dm] ∧ relL relI l dm) (hk : f d ≤ 1048576) : l.length ≤ 1048576 ∧ ∀ i ∈ l, i.Tiny := by
  obtain ⟨dm, rfl, hr⟩ := hr
  have h0 := h.agg [.lit (.int .u32 ga), .lit (.int .u32 ba), dm]
  rw [h.cons, h.cons, h.cons] at h0
  have h1 := bulk_rel h (g := fun _ : InstP => 1) (fun i y _ => h.one y) hr
  have h2 := bulk_rel h (g := fun i : InstP => (i.args.map argRoom).sum) (fun i y hy => (bulk_inst0 h i y hy).1) hr
  have h3 := bulk_rel h (g := fun i : InstP => (i.args.map fun a => a.s.length).sum) (fun i y hy => (bulk_inst0 h i y hy).2) hr
  rw [sum_one] at h1
  refine ⟨by omega, fun i hi => ⟨?_, fun a ha => ?_⟩⟩
  · have := sum_mem (g := fun i : InstP => (i.args.map argRoom).sum) hi; omega
  · have := sum_mem (g := fun i : InstP => (i.args.map fun a => a.s.length).sum) hi
    have := sum_mem (g := fun a : ArgP => a.s.length) ha
    omega
end
theorem tiny_small {w : World} {l : List InstP} (h : l.length ≤ 1048576 ∧ ∀ i ∈ l, i.Tiny) (hg : ∀ i ∈ l, i.good w) : Small l :=
  ⟨by omega, fun i hi => (hg i hi).1.1, fun i hi => by have := (hg i hi).1.2; omega, fun i hi => by have := (h.2 i hi).sum; omega, fun i hi a ha => by have := (h.2 i hi).txt a ha; omega⟩
theorem InstP.Tiny.args {i : InstP} (h : i.Tiny) : i.args.length ≤ 1048576 := Nat.le_trans (len_sum _) h.sum
end Go.SK
namespace Go.SK
theorem Small.len9 {l : List InstP} (h : Small l) : l.length ≤ 9000000000000000000 := by have := h.len; omega
theorem Small.la9 {l : List InstP} (h : Small l) : ∀ i ∈ l, i.args.length ≤ 9000000000000000000 := fun i hi => by have := h.args i hi; omega
theorem Small.lenC {l : List InstP} (h : Small l) : l.length ≤ 3518437208884 := by have := h.len; omega
theorem Small.laC {l : List InstP} (h : Small l) : ∀ i ∈ l, i.args.length ≤ 5864062014806 := fun i hi => by have := h.args i hi; omega
end Go.SK
namespace Go.SK
def ptF (i : InstL) : Int := if i.op = 59 ∧ 0 < i.args.length ∧ (i.args.getD 0 zeroA).n = 7 then 8 else (refD i.op).part
def endsB (op : Int) : Bool := decide (249 ≤ op ∧ op ≤ 255)
def kdF (i : InstL) : Int :=
  if ptF i ≠ 8 then 9 else if i.op = 54 then 1 else if i.op = 55 then 2 else if i.op = 56 then 8 else if i.op = 248 then 3 else if i.op = 245 then 4 else if i.op = 59 then 5 else if i.op = 246 ∨ i.op = 247 then 6 else if endsB i.op = true then 7 else 0
def mayM (m e : Int) : Bool := if e = 251 then decide (m = 247) else if e = 249 then decide (m = 246) else decide (e = 250)
inductive LS where
  | top (p : Int)
  | fn
  | blk (first : Bool)
  | pl
  | mg (op : Int)
  | en
  | zz
  deriving DecidableEq
def stepO (S : LS) (i : InstL) : Option LS :=
  match S with
  | .top p => if ptF i = 8 then (if 1 ≤ p ∧ i.op = 54 then some .fn else none)
    else if ptF i < p then none
    else if ptF i = 1 then (if p = 0 then some (.top 1) else none)
    else if 1 < ptF i ∧ p = 0 then none
    else some (.top (ptF i))
  | .fn => if kdF i = 2 then some .fn else if kdF i = 3 then some (.blk true) else none
  | .blk f => if kdF i = (if f = true then 5 else 4) then some (.blk f) else if kdF i = 0 then some .pl else if kdF i = 6 then some (.mg i.op) else if kdF i = 7 then some .en else none
  | .pl => if kdF i = 0 then some .pl else if kdF i = 6 then some (.mg i.op) else if kdF i = 7 then some .en else none
  | .mg o => if kdF i = 7 ∧ mayM o i.op = true then some .en else none
  | .en => if kdF i = 3 then some (.blk false) else if kdF i = 8 then some .zz else none
  | .zz => if kdF i = 1 then some .fn else none
def LS.fin : LS → Bool
  | .top p => decide (1 ≤ p)
  | .zz => true
  | _ => false
def dfaF (l : List InstL) : Option LS := l.foldl (fun s i => s.bind fun S => stepO S i) (some (.top 0))
theorem dfa_nil : dfaF [] = some (.top 0) := rfl
theorem dfa_snoc (l : List InstL) (i : InstL) : dfaF (l ++ [i]) = (dfaF l).bind fun S => stepO S i := by
  unfold dfaF; rw [List.foldl_append]; rfl
theorem dfa_take {l : List InstL} {k : Nat} (h : k < l.length) : dfaF (l.take (k + 1)) = (dfaF (l.take k)).bind fun S => stepO S (l.getD k zeroIL) := by
  rw [take_getD2 (d := zeroIL) h, dfa_snoc]
theorem dfa_next {l : List InstL} {k : Nat} {S : LS} (h : k < l.length) (hd : dfaF (l.take k) = some S) : dfaF (l.take (k + 1)) = stepO S (l.getD k zeroIL) := by
  rw [dfa_take h, hd]; rfl
def scanF (l : List InstL) : Nat → Nat → LS → Int × Int
  | 0, k, S => if S.fin = true then (0, 0) else (51, (k : Int))
  | n + 1, k, S => match stepO S (l.getD k zeroIL) with
    | none => (50, (k : Int))
    | some S' => scanF l n (k + 1) S'
def orderF (l : List InstL) : Int × Int := scanF l l.length 0 (.top 0)
theorem scan_at {l : List InstL} : ∀ {n k : Nat} {S : LS}, k + n = l.length → dfaF (l.take k) = some S → orderF l = scanF l n k S → ∀ j, j ≤ n → ∀ S', dfaF (l.take (k + j)) = some S' → orderF l = scanF l (n - j) (k + j) S'
  | n, k, S, hk, hd, h, 0, _, S', hd' => by
    rw [Nat.add_zero] at hd' ⊢
    rw [hd] at hd'
    cases hd'
    exact h
  | 0, k, S, hk, hd, h, j + 1, hj, _, _ => absurd hj (by omega)
  | n + 1, k, S, hk, hd, h, j + 1, hj, S', hd' => by
    rw [scanF] at h
    have hn := dfa_next (show k < l.length by omega) hd
    cases hs : stepO S (l.getD k zeroIL) with
    | none =>
      exfalso
      rw [hs] at hn
      have key : ∀ m, dfaF (l.take (k + 1 + m)) = none ∨ l.length < k + 1 + m := by
        intro m
        induction m with
        | zero => exact .inl hn
        | succ m ih =>
          rcases ih with ih | ih
          · by_cases hm : k + 1 + m < l.length
            · left; rw [show k + 1 + (m + 1) = k + 1 + m + 1 by omega, dfa_take hm, ih]; rfl
            · right; omega
          · right; omega
      rcases key j with h1 | h1
      · rw [show k + (j + 1) = k + 1 + j by omega, h1] at hd'; cases hd'
      · omega
    | some S2 =>
      rw [hs] at hn h
      have := scan_at (n := n) (k := k + 1) (S := S2) (by omega) hn h j (by omega) S' (by rw [show k + 1 + j = k + (j + 1) by omega]; exact hd')
      rw [show k + (j + 1) = k + 1 + j by omega, show n + 1 - (j + 1) = n - j by omega]
      exact this
theorem order_at {l : List InstL} {k : Nat} {S : LS} (hk : k ≤ l.length) (hd : dfaF (l.take k) = some S) : orderF l = scanF l (l.length - k) k S := by
  have := scan_at (l := l) (n := l.length) (k := 0) (S := .top 0) (by omega) (by rw [List.take_zero]; rfl) rfl k hk S (by rw [Nat.zero_add]; exact hd)
  rwa [Nat.zero_add] at this
theorem order_stop {l : List InstL} {k : Nat} {S : LS} (hk : k < l.length) (hd : dfaF (l.take k) = some S) (hs : stepO S (l.getD k zeroIL) = none) : orderF l = (50, (k : Int)) := by
  rw [order_at (by omega) hd, show l.length - k = (l.length - k - 1) + 1 by omega, scanF, hs]
theorem order_open {l : List InstL} {S : LS} (hd : dfaF (l.take l.length) = some S) (hs : S.fin = false) : orderF l = (51, (l.length : Int)) := by
  rw [order_at (Nat.le_refl _) hd, Nat.sub_self, scanF, if_neg (by rw [hs]; decide)]
theorem order_good {l : List InstL} {S : LS} (hd : dfaF (l.take l.length) = some S) (hs : S.fin = true) : orderF l = (0, 0) := by
  rw [order_at (Nat.le_refl _) hd, Nat.sub_self, scanF, if_pos hs]
def nxF (l : List InstL) (k : Nat) : Int := if k < l.length then kdF (l.getD k zeroIL) else -1
def runN (l : List InstL) (kd : Int) (k : Nat) : Nat := ((l.drop k).takeWhile fun i => decide (kdF i = kd)).length
theorem run_step {l : List InstL} {kd : Int} {k : Nat} (h : k < l.length) : runN l kd k = if kdF (l.getD k zeroIL) = kd then runN l kd (k + 1) + 1 else 0 := by
  unfold runN
  rw [drop_getD2 zeroIL h, List.takeWhile_cons]
  by_cases hk : kdF (l.getD k zeroIL) = kd
  · rw [decide_eq_true hk, if_pos hk]; rfl
  · rw [decide_eq_false hk, if_neg hk]; rfl
theorem run_out {l : List InstL} {kd : Int} {k : Nat} (h : ¬ k < l.length) : runN l kd k = 0 := by
  unfold runN; rw [List.drop_of_length_le (by omega)]; rfl
theorem run_le {l : List InstL} {kd : Int} {k : Nat} (h : k ≤ l.length) : k + runN l kd k ≤ l.length := by
  have h1 := (List.takeWhile_sublist (fun i => decide (kdF i = kd)) (l := l.drop k)).length_le
  rw [List.length_drop] at h1
  unfold runN; omega
theorem run_dfa {l : List InstL} {kd : Int} {S1 : LS} (hkd : kd ≠ -1) (hs : ∀ i, kdF i = kd → stepO S1 i = some S1) : ∀ (n k : Nat), l.length - k ≤ n → k ≤ l.length → dfaF (l.take k) = some S1 → dfaF (l.take (k + runN l kd k)) = some S1 ∧ nxF l (k + runN l kd k) ≠ kd
  | n, k, hn, hk, hd => by
    by_cases h : k < l.length
    · rw [run_step h]
      by_cases he : kdF (l.getD k zeroIL) = kd
      · rw [if_pos he]
        match n, hn with
        | 0, hn => omega
        | n + 1, hn =>
          have := run_dfa (l := l) hkd hs n (k + 1) (by omega) (by omega) (by rw [dfa_next h hd, hs _ he])
          rw [show k + (runN l kd (k + 1) + 1) = k + 1 + runN l kd (k + 1) by omega]; exact this
      · rw [if_neg he, Nat.add_zero]
        refine ⟨hd, ?_⟩
        unfold nxF; rw [if_pos h]; exact he
    · rw [run_out h, Nat.add_zero]
      refine ⟨hd, ?_⟩
      unfold nxF; rw [if_neg h]; exact fun e => hkd e.symm
end Go.SK
namespace Go.SK
def opsIn (op : Int) : Bool := decide (op = 54 ∨ op = 55 ∨ op = 56 ∨ op = 248 ∨ op = 245 ∨ op = 246 ∨ op = 247 ∨ (249 ≤ op ∧ op ≤ 255))
theorem parts_all : (refT.all fun f => decide (0 ≤ f.part ∧ f.part ≤ 8) && (!(opsIn f.op) || decide (f.part = 8)) && (!(decide (f.op = 59)) || decide (f.part = 7))) = true := by decide +kernel
def InstL.Known (i : InstL) : Prop := (refS i.op).isSome = true
theorem known_form {op : Int} (h : (refS op).isSome = true) : refD op ∈ refT ∧ (refD op).op = op := by
  obtain ⟨f, hf⟩ := Option.isSome_iff_exists.1 h
  have := refF_mem (show refF op refT = some f from hf)
  have e : refD op = f := by unfold refD; rw [hf]; rfl
  rw [e]; exact this
theorem known_parts {op : Int} (h : (refS op).isSome = true) : (0 ≤ (refD op).part ∧ (refD op).part ≤ 8) ∧ (opsIn op = true → (refD op).part = 8) ∧ (op = 59 → (refD op).part = 7) := by
  obtain ⟨h1, h2⟩ := known_form h
  have h3 := List.all_eq_true.1 parts_all _ h1
  rw [h2] at h3
  simp only [Bool.and_eq_true, Bool.or_eq_true, Bool.not_eq_true', decide_eq_true_eq, decide_eq_false_iff_not] at h3
  refine ⟨h3.1.1, fun e => ?_, fun e => ?_⟩
  · rcases h3.1.2 with h4 | h4
    · rw [e] at h4; cases h4
    · exact h4
  · rcases h3.2 with h4 | h4
    · exact absurd e h4
    · exact h4
theorem ops_pos : (refT.all fun f => !(decide (f.op = 0))) = true := by decide +kernel
theorem known_pos {i : InstL} (h : i.Known) : i.op ≠ 0 := fun e => by
  obtain ⟨h1, h2⟩ := known_form h
  have h3 := List.all_eq_true.1 ops_pos _ h1
  rw [h2, e] at h3
  exact absurd h3 (by decide)
theorem pt_le {i : InstL} (h : i.Known) : 0 ≤ ptF i ∧ ptF i ≤ 8 := by
  unfold ptF
  split
  · omega
  · exact (known_parts h).1
theorem pt_in {i : InstL} (h : i.Known) (ho : opsIn i.op = true) : ptF i = 8 := by
  unfold ptF
  split
  · rfl
  · exact (known_parts h).2.1 ho
theorem kd_above {i : InstL} (h : ptF i ≠ 8) : kdF i = 9 := if_pos h
theorem kd_in {i : InstL} (h : kdF i ≠ 9) : ptF i = 8 := Classical.byContradiction fun e => h (kd_above e)
theorem kd_range (i : InstL) : 0 ≤ kdF i ∧ kdF i ≤ 9 := by
  unfold kdF
  repeat' split
  all_goals omega
theorem kd_op {i : InstL} (h : ptF i = 8) : kdF i = if i.op = 54 then 1 else if i.op = 55 then 2 else if i.op = 56 then 8 else if i.op = 248 then 3 else if i.op = 245 then 4 else if i.op = 59 then 5 else if i.op = 246 ∨ i.op = 247 then 6 else if endsB i.op = true then 7 else 0 := if_neg fun e => e h
theorem endsB_iff {op : Int} : endsB op = true ↔ 249 ≤ op ∧ op ≤ 255 := by unfold endsB; exact decide_eq_true_iff
theorem kd_cases (i : InstL) : (kdF i = 9 ∧ ptF i ≠ 8) ∨ (ptF i = 8 ∧ ((kdF i = 1 ∧ i.op = 54) ∨ (kdF i = 2 ∧ i.op = 55) ∨ (kdF i = 8 ∧ i.op = 56) ∨ (kdF i = 3 ∧ i.op = 248) ∨ (kdF i = 4 ∧ i.op = 245) ∨ (kdF i = 5 ∧ i.op = 59) ∨ (kdF i = 6 ∧ (i.op = 246 ∨ i.op = 247)) ∨ (kdF i = 7 ∧ (249 ≤ i.op ∧ i.op ≤ 255)) ∨
    (kdF i = 0 ∧ i.op ≠ 54 ∧ i.op ≠ 55 ∧ i.op ≠ 56 ∧ i.op ≠ 248 ∧ i.op ≠ 245 ∧ i.op ≠ 59 ∧ i.op ≠ 246 ∧ i.op ≠ 247 ∧ ¬ (249 ≤ i.op ∧ i.op ≤ 255)))) := by
  by_cases h : ptF i = 8
  · right
    refine ⟨h, ?_⟩
    rw [kd_op h]
    by_cases h1 : i.op = 54
    · rw [if_pos h1]; exact .inl ⟨rfl, h1⟩
    rw [if_neg h1]; right
    by_cases h2 : i.op = 55
    · rw [if_pos h2]; exact .inl ⟨rfl, h2⟩
    rw [if_neg h2]; right
    by_cases h3 : i.op = 56
    · rw [if_pos h3]; exact .inl ⟨rfl, h3⟩
    rw [if_neg h3]; right
    by_cases h4 : i.op = 248
    · rw [if_pos h4]; exact .inl ⟨rfl, h4⟩
    rw [if_neg h4]; right
    by_cases h5 : i.op = 245
    · rw [if_pos h5]; exact .inl ⟨rfl, h5⟩
    rw [if_neg h5]; right
    by_cases h6 : i.op = 59
    · rw [if_pos h6]; exact .inl ⟨rfl, h6⟩
    rw [if_neg h6]; right
    by_cases h7 : i.op = 246 ∨ i.op = 247
    · rw [if_pos h7]; exact .inl ⟨rfl, h7⟩
    rw [if_neg h7]; right
    by_cases h8 : endsB i.op = true
    · rw [if_pos h8]; exact .inl ⟨rfl, endsB_iff.1 h8⟩
    · rw [if_neg h8]
      exact .inr ⟨rfl, h1, h2, h3, h4, h5, h6, fun e => h7 (.inl e), fun e => h7 (.inr e), fun e => h8 (endsB_iff.2 e)⟩
  · exact .inl ⟨kd_above h, h⟩
def ptA (l : List InstL) (k : Nat) : Int := ptF (l.getD k zeroIL)
def opA (l : List InstL) (k : Nat) : Int := (l.getD k zeroIL).op
def cnt1 (l : List InstL) (k : Nat) : Nat := ((l.take k).filter fun i => decide (ptF i = 1)).length
def overB (l : List InstL) (k : Nat) (p : Int) : Bool := (l.take k).any fun i => decide (p < ptF i)
def firstF (l : List InstL) : Nat → Bool
  | 0 => false
  | k + 1 => if opA l (k + 1) = 248 then decide (opA l k = 54 ∨ opA l k = 55) else firstF l k
def aheadF (l : List InstL) (k : Nat) : Int := if 0 < k ∧ ptA l (k - 1) = 8 then opA l (k - 1) else 0
def mayO (op ah : Int) (f : Bool) : Bool :=
  if op = 54 then decide (ah = 0 ∨ ah = 56)
  else if op = 55 then decide (ah = 54 ∨ ah = 55)
  else if op = 248 then decide (ah = 54 ∨ ah = 55 ∨ endsB ah = true)
  else if op = 56 then endsB ah
  else if ah = 0 ∨ ah = 54 ∨ ah = 55 ∨ ah = 56 ∨ endsB ah = true then false
  else if op = 245 then decide ((ah = 248 ∨ ah = 245) ∧ f = false)
  else if op = 59 then decide ((ah = 248 ∨ ah = 59) ∧ f = true)
  else if ah = 246 then decide (op = 249 ∨ op = 250)
  else if ah = 247 then decide (op = 250 ∨ op = 251)
  else true
def mayB (l : List InstL) (k : Nat) : Bool :=
  if overB l k (ptA l k) = true then false
  else if ptA l k = 1 then decide (cnt1 l k = 0)
  else if 1 < ptA l k ∧ cnt1 l k = 0 then false
  else if ptA l k < 8 then true
  else mayO (opA l k) (aheadF l k) (firstF l (k - 1))
def aheadS (l : List InstL) (k : Nat) : LS → Prop
  | .top p => (0 ≤ p ∧ p ≤ 7) ∧ (∀ j, j < k → ptA l j ≤ p) ∧ (p ≠ 0 → ∃ j, j < k ∧ ptA l j = p) ∧ (cnt1 l k = 0 ↔ p = 0)
  | .fn => 0 < k ∧ cnt1 l k ≠ 0 ∧ ptA l (k - 1) = 8 ∧ (opA l (k - 1) = 54 ∨ opA l (k - 1) = 55)
  | .blk f => 0 < k ∧ cnt1 l k ≠ 0 ∧ ptA l (k - 1) = 8 ∧ (opA l (k - 1) = 248 ∨ opA l (k - 1) = (if f = true then 59 else 245)) ∧ firstF l (k - 1) = f ∧ ∃ j, 1 ≤ j ∧ j ≤ k - 1 ∧ opA l j = 248
  | .pl => 0 < k ∧ cnt1 l k ≠ 0 ∧ ptA l (k - 1) = 8 ∧ kdF (l.getD (k - 1) zeroIL) = 0
  | .mg o => 0 < k ∧ cnt1 l k ≠ 0 ∧ ptA l (k - 1) = 8 ∧ opA l (k - 1) = o ∧ (o = 246 ∨ o = 247)
  | .en => 0 < k ∧ cnt1 l k ≠ 0 ∧ ptA l (k - 1) = 8 ∧ (249 ≤ opA l (k - 1) ∧ opA l (k - 1) ≤ 255)
  | .zz => 0 < k ∧ cnt1 l k ≠ 0 ∧ ptA l (k - 1) = 8 ∧ opA l (k - 1) = 56
theorem cnt1_step {l : List InstL} {k : Nat} (h : k < l.length) : cnt1 l (k + 1) = cnt1 l k + (if ptA l k = 1 then 1 else 0) := by
  unfold cnt1 ptA
  rw [take_getD2 (d := zeroIL) h, List.filter_append, List.length_append]
  congr 1
  by_cases e : ptF (l.getD k zeroIL) = 1
  · rw [if_pos e, List.filter_cons_of_pos (by simpa using e)]; rfl
  · rw [if_neg e, List.filter_cons_of_neg (by simpa using e)]; rfl
theorem overB_step {l : List InstL} {k : Nat} {p : Int} (h : k < l.length) : overB l (k + 1) p = (overB l k p || decide (p < ptA l k)) := by
  unfold overB ptA
  rw [take_getD2 (d := zeroIL) h, List.any_append]; simp
theorem overB_iff {l : List InstL} {k : Nat} {p : Int} (hk : k ≤ l.length) : overB l k p = true ↔ ∃ j, j < k ∧ p < ptA l j := by
  induction k with
  | zero => simp [overB]
  | succ k ih =>
    rw [overB_step (by omega), Bool.or_eq_true, ih (by omega), decide_eq_true_iff]
    constructor
    · rintro (⟨j, h1, h2⟩ | h)
      · exact ⟨j, by omega, h2⟩
      · exact ⟨k, by omega, h⟩
    · rintro ⟨j, h1, h2⟩
      by_cases e : j = k
      · subst e; exact .inr h2
      · exact .inl ⟨j, by omega, h2⟩
theorem ahead_step {l : List InstL} (hkn : ∀ i ∈ l, i.Known) {k : Nat} {S S' : LS} (h : k < l.length) (hp : aheadS l k S) (hs : stepO S (l.getD k zeroIL) = some S') : aheadS l (k + 1) S' := by
  have hi : (l.getD k zeroIL).Known := hkn _ (getD_memD h)
  have hpt := pt_le hi
  have hc := cnt1_step h
  have hkc := kd_cases (l.getD k zeroIL)
  have hP : ptA l k = ptF (l.getD k zeroIL) := rfl
  have hO : opA l k = (l.getD k zeroIL).op := rfl
  have hK : k + 1 - 1 = k := rfl
  have hpos : ∀ {c : Nat}, cnt1 l k ≠ 0 → cnt1 l (k + 1) ≠ 0 := fun hx => by rw [hc]; omega
  cases S with
  | top p =>
    obtain ⟨⟨p0, p1⟩, p2, p3, p4⟩ := hp
    unfold stepO at hs
    simp only at hs
    split at hs
    · rename_i h1
      split at hs
      · rename_i h2
        cases hs
        refine ⟨by omega, hpos (c := 0) (fun e => by have := p4.1 e; omega), by rw [hK, hP]; exact h1, .inl (by rw [hK, hO]; exact h2.2)⟩
      · cases hs
    · rename_i h1
      split at hs
      · cases hs
      · rename_i h2
        split at hs
        · rename_i h3
          split at hs
          · rename_i h4
            cases hs
            refine ⟨by omega, fun j hj => ?_, fun _ => ⟨k, by omega, by rw [hP]; exact h3⟩, ?_⟩
            · by_cases e : j = k
              · subst e; rw [hP]; omega
              · have := p2 j (by omega); omega
            · rw [hc, hP, if_pos h3]; omega
          · cases hs
        · rename_i h3
          split at hs
          · cases hs
          · rename_i h4
            cases hs
            refine ⟨by omega, fun j hj => ?_, fun _ => ⟨k, by omega, hP⟩, ?_⟩
            · by_cases e : j = k
              · subst e; rw [hP]; omega
              · have := p2 j (by omega); omega
            · rw [hc, hP, if_neg h3, Nat.add_zero, p4]; omega
  | fn =>
    obtain ⟨q0, q1, q2, q3⟩ := hp
    unfold stepO at hs
    simp only at hs
    split at hs
    · rename_i h1
      cases hs
      refine ⟨by omega, hpos (c := 0) q1, by rw [hK, hP]; exact kd_in (by omega), .inr (by rw [hK, hO]; omega)⟩
    · split at hs
      · rename_i h1 h2
        cases hs
        have ho : opA l k = 248 := by rw [hO]; omega
        refine ⟨by omega, hpos (c := 0) q1, by rw [hK, hP]; exact kd_in (by omega), .inl ho, ?_, k, by omega, by omega, ho⟩
        obtain ⟨m, rfl⟩ : ∃ m, k = m + 1 := ⟨k - 1, by omega⟩
        rw [hK, firstF, if_pos ho]
        exact decide_eq_true q3
      · cases hs
  | blk f =>
    obtain ⟨q0, q1, q2, q3, q4, q5⟩ := hp
    unfold stepO at hs
    simp only at hs
    obtain ⟨c, hcf⟩ : ∃ c : Int, (if f = true then (5 : Int) else 4) = c := ⟨_, rfl⟩
    rw [hcf] at hs
    split at hs
    · rename_i h1
      cases hs
      have ho : opA l k = if f = true then 59 else 245 := by
        rw [hO]
        cases f
        · rw [if_neg (by decide)] at hcf ⊢; omega
        · rw [if_pos rfl] at hcf ⊢; omega
      refine ⟨by omega, hpos (c := 0) q1, ?_, .inr ho, ?_, ?_⟩
      · rw [hK, hP]; refine kd_in ?_
        cases f
        · rw [if_neg (by decide)] at hcf; omega
        · rw [if_pos rfl] at hcf; omega
      · obtain ⟨m, rfl⟩ : ∃ m, k = m + 1 := ⟨k - 1, by omega⟩
        rw [hK, firstF, if_neg (by rw [ho]; cases f <;> decide)]
        exact q4
      · obtain ⟨j, h2, h3, h4⟩ := q5
        exact ⟨j, h2, by omega, h4⟩
    · split at hs
      · rename_i h1 h2
        cases hs
        exact ⟨by omega, hpos (c := 0) q1, by rw [hK, hP]; exact kd_in (by omega), h2⟩
      · split at hs
        · rename_i h1 h2 h3
          cases hs
          exact ⟨by omega, hpos (c := 0) q1, by rw [hK, hP]; exact kd_in (by omega), rfl, by omega⟩
        · split at hs
          · rename_i h1 h2 h3 h4
            cases hs
            exact ⟨by omega, hpos (c := 0) q1, by rw [hK, hP]; exact kd_in (by omega), by rw [hK, hO]; omega⟩
          · cases hs
  | pl =>
    obtain ⟨q0, q1, q2, q3⟩ := hp
    unfold stepO at hs
    simp only at hs
    split at hs
    · rename_i h2
      cases hs
      exact ⟨by omega, hpos (c := 0) q1, by rw [hK, hP]; exact kd_in (by omega), h2⟩
    · split at hs
      · rename_i h1 h2
        cases hs
        exact ⟨by omega, hpos (c := 0) q1, by rw [hK, hP]; exact kd_in (by omega), rfl, by omega⟩
      · split at hs
        · rename_i h1 h2 h3
          cases hs
          exact ⟨by omega, hpos (c := 0) q1, by rw [hK, hP]; exact kd_in (by omega), by rw [hK, hO]; omega⟩
        · cases hs
  | mg o =>
    obtain ⟨q0, q1, q2, q3⟩ := hp
    unfold stepO at hs
    simp only at hs
    split at hs
    · rename_i h2
      cases hs
      have h3 := h2.1
      exact ⟨by omega, hpos (c := 0) q1, by rw [hK, hP]; exact kd_in (by omega), by rw [hK, hO]; omega⟩
    · cases hs
  | en =>
    obtain ⟨q0, q1, q2, q3⟩ := hp
    unfold stepO at hs
    simp only at hs
    split at hs
    · rename_i h2
      cases hs
      have ho : opA l k = 248 := by rw [hO]; omega
      refine ⟨by omega, hpos (c := 0) q1, by rw [hK, hP]; exact kd_in (by omega), .inl ho, ?_, k, by omega, by omega, ho⟩
      obtain ⟨m, rfl⟩ : ∃ m, k = m + 1 := ⟨k - 1, by omega⟩
      rw [hK, firstF, if_pos ho]
      refine decide_eq_false ?_
      rw [show m + 1 - 1 = m from rfl] at q3
      omega
    · split at hs
      · rename_i h1 h2
        cases hs
        exact ⟨by omega, hpos (c := 0) q1, by rw [hK, hP]; exact kd_in (by omega), by rw [hK, hO]; omega⟩
      · cases hs
  | zz =>
    obtain ⟨q0, q1, q2, q3⟩ := hp
    unfold stepO at hs
    simp only at hs
    split at hs
    · rename_i h2
      cases hs
      exact ⟨by omega, hpos (c := 0) q1, by rw [hK, hP]; exact kd_in (by omega), .inl (by rw [hK, hO]; omega)⟩
    · cases hs
theorem dfa_prefix {l : List InstL} {k j : Nat} {S : LS} (hk : k ≤ l.length) (hd : dfaF (l.take k) = some S) (hj : j ≤ k) : ∃ S', dfaF (l.take j) = some S' := by
  cases hx : dfaF (l.take j) with
  | some S' => exact ⟨S', rfl⟩
  | none =>
    exfalso
    have key : ∀ m, j + m ≤ k → dfaF (l.take (j + m)) = none := by
      intro m
      induction m with
      | zero => intro _; exact hx
      | succ m ih => intro hm; rw [show j + (m + 1) = j + m + 1 by omega, dfa_take (by omega), ih (by omega)]; rfl
    have := key (k - j) (by omega)
    rw [show j + (k - j) = k by omega, hd] at this
    cases this
theorem ahead_of {l : List InstL} (hkn : ∀ i ∈ l, i.Known) : ∀ {k : Nat} {S : LS}, k ≤ l.length → dfaF (l.take k) = some S → aheadS l k S
  | 0, S, _, hd => by
    rw [List.take_zero, dfa_nil] at hd
    cases hd
    exact ⟨by omega, fun j hj => absurd hj (by omega), fun e => absurd rfl e, by simp [cnt1]⟩
  | k + 1, S, hk, hd => by
    obtain ⟨S0, h0⟩ := dfa_prefix hk hd (show k ≤ k + 1 by omega)
    exact ahead_step hkn (by omega) (ahead_of hkn (by omega) h0) (by rw [← dfa_next (by omega) h0]; exact hd)
end Go.SK
namespace Go.SK
def Stuck (l : List InstL) (k : Nat) : Prop := k ≤ l.length ∧ ∃ S, dfaF (l.take k) = some S ∧ (k < l.length → stepO S (l.getD k zeroIL) = none) ∧ (k = l.length → S.fin = false)
theorem Stuck.order {l : List InstL} {k : Nat} (h : Stuck l k) : orderF l = (if k < l.length then 50 else 51, (k : Int)) := by
  obtain ⟨h1, S, h2, h3, h4⟩ := h
  by_cases e : k < l.length
  · rw [if_pos e]; exact order_stop e h2 (h3 e)
  · rw [if_neg e]
    obtain rfl : k = l.length := by omega
    exact order_open h2 (h4 rfl)
def atP (p : Nat) (i : InstL) : Bool := decide (kdF i = 9 ∧ ptF i = (p : Int))
def topR (l : List InstL) (p k : Nat) : Nat := ((l.drop k).takeWhile (atP p)).length
def topN (l : List InstL) (p k : Nat) : Nat := if p = 1 then min 1 (topR l 1 k) else topR l p k
def topA (l : List InstL) : Nat → Nat
  | 0 => 0
  | p + 1 => topA l p + topN l p (topA l p)
theorem topR_step {l : List InstL} {p k : Nat} (h : k < l.length) : topR l p k = if atP p (l.getD k zeroIL) = true then topR l p (k + 1) + 1 else 0 := by
  unfold topR
  rw [drop_getD2 zeroIL h, List.takeWhile_cons]
  cases he : atP p (l.getD k zeroIL) with
  | true => rw [if_pos rfl]; rfl
  | false => rw [if_neg (by decide)]; rfl
theorem topR_out {l : List InstL} {p k : Nat} (h : ¬ k < l.length) : topR l p k = 0 := by
  unfold topR; rw [List.drop_of_length_le (by omega)]; rfl
theorem topR_le {l : List InstL} {p k : Nat} (h : k ≤ l.length) : k + topR l p k ≤ l.length := by
  have h1 := (List.takeWhile_sublist (atP p) (l := l.drop k)).length_le
  rw [List.length_drop] at h1
  unfold topR; omega
theorem topN_le {l : List InstL} {p k : Nat} (h : k ≤ l.length) : k + topN l p k ≤ l.length := by
  have := topR_le (p := p) h
  unfold topN; split
  · rename_i e; subst e; omega
  · exact this
theorem topA_le {l : List InstL} : ∀ p, topA l p ≤ l.length
  | 0 => Nat.zero_le _
  | p + 1 => topN_le (topA_le p)
theorem topR_all {l : List InstL} {p : Nat} : ∀ (n k : Nat), k ≤ l.length → n ≤ topR l p k → ∀ j, k ≤ j → j < k + n → atP p (l.getD j zeroIL) = true
  | 0, k, _, _, j, h1, h2 => absurd h2 (by omega)
  | n + 1, k, hk, hn, j, h1, h2 => by
    have hlt : k < l.length := Classical.byContradiction fun e => by rw [topR_out e] at hn; omega
    rw [topR_step hlt] at hn
    split at hn
    · rename_i he
      by_cases e : j = k
      · subst e; exact he
      · exact topR_all n (k + 1) (by omega) (by omega) j (by omega) (by omega)
    · omega
theorem topN_all {l : List InstL} {p j : Nat} (h1 : topA l p ≤ j) (h2 : j < topA l (p + 1)) : atP p (l.getD j zeroIL) = true := by
  rw [topA] at h2
  refine topR_all (topN l p (topA l p)) (topA l p) (topA_le p) ?_ j h1 h2
  unfold topN; split
  · rename_i e; subst e; omega
  · exact Nat.le_refl _
theorem topR_stop {l : List InstL} {p : Nat} : ∀ (n k : Nat), l.length - k ≤ n → k ≤ l.length → k + topR l p k < l.length → atP p (l.getD (k + topR l p k) zeroIL) = false
  | n, k, hn, hk, hlt => by
    by_cases h : k < l.length
    · have hs := topR_step (p := p) h
      by_cases he : atP p (l.getD k zeroIL) = true
      · rw [if_pos he] at hs
        match n, hn with
        | 0, hn => omega
        | n + 1, hn =>
          have := topR_stop (l := l) (p := p) n (k + 1) (by omega) (by omega) (by omega)
          rw [hs, show k + (topR l p (k + 1) + 1) = k + 1 + topR l p (k + 1) by omega]; exact this
      · rw [if_neg he] at hs
        rw [hs, Nat.add_zero]
        simpa using he
    · omega
theorem atP_iff {p : Nat} {i : InstL} : atP p i = true ↔ kdF i = 9 ∧ ptF i = (p : Int) := by unfold atP; exact decide_eq_true_iff
theorem run_top {l : List InstL} {p : Nat} {q : Int} (hq : stepO (.top q) = fun i => stepO (.top q) i) (hs : ∀ i, atP p i = true → stepO (.top q) i = some (.top p) ∧ stepO (.top (p : Int)) i = some (.top p)) : ∀ (n k : Nat), k ≤ l.length → n ≤ topR l p k → dfaF (l.take k) = some (.top q) → dfaF (l.take (k + n)) = some (if n = 0 then .top q else .top p)
  | 0, k, hk, _, hd => by rw [Nat.add_zero, if_pos rfl]; exact hd
  | n + 1, k, hk, hn, hd => by
    have hall := topR_all (n + 1) k hk hn
    have hlt : k + n < l.length := by have := topR_le (l := l) (p := p) hk; omega
    have ih := run_top hq hs n k hk (by omega) hd
    rw [show k + (n + 1) = k + n + 1 by omega, dfa_next hlt ih, if_neg (show ¬ n + 1 = 0 by omega)]
    have ha := hs _ (hall (k + n) (by omega) (by omega))
    by_cases e0 : n = 0
    · rw [if_pos e0]; exact ha.1
    · rw [if_neg e0]; exact ha.2
theorem pt_of_kd9 {i : InstL} (h : kdF i = 9) : ptF i ≠ 8 := by
  rcases kd_cases i with ⟨_, h1⟩ | ⟨_, h1⟩
  · exact h1
  · omega
theorem top_first {l : List InstL} : dfaF (l.take (topA l 1)) = some (.top 0) := by
  have := run_top (l := l) (p := 0) (q := 0) rfl (fun i hi => by
    rw [atP_iff] at hi
    have h8 := pt_of_kd9 hi.1
    have h0 : ptF i = 0 := hi.2
    have : stepO (.top 0) i = some (.top 0) := by
      unfold stepO; dsimp only
      rw [if_neg h8, if_neg (by omega), if_neg (by omega), if_neg (by omega), h0]
    exact ⟨this, this⟩) (topR l 0 0) 0 (Nat.zero_le _) (Nat.le_refl _) (by rw [List.take_zero]; rfl)
  have e : topA l 1 = 0 + topR l 0 0 := rfl
  rw [e, this]
  split <;> rfl
theorem top_none {l : List InstL} (hkn : ∀ i ∈ l, i.Known) (h : topA l 2 = topA l 1) : Stuck l (topA l 1) := by
  refine ⟨topA_le 1, .top 0, top_first, fun hlt => ?_, fun _ => rfl⟩
  have hN : topR l 1 (topA l 1) = 0 := by
    have e : topA l 2 = topA l 1 + min 1 (topR l 1 (topA l 1)) := rfl
    omega
  have h0 : atP 0 (l.getD (topA l 1) zeroIL) = false := by
    have e : topA l 1 = 0 + topR l 0 0 := rfl
    have := topR_stop (l := l) (p := 0) l.length 0 (by omega) (Nat.zero_le _) (by omega)
    rw [← e] at this
    exact this
  have h1 : atP 1 (l.getD (topA l 1) zeroIL) = false := by
    rw [topR_step hlt] at hN
    split at hN
    · omega
    · rename_i he; simpa using he
  have hpt := pt_le (hkn _ (getD_memD (d := zeroIL) hlt))
  generalize l.getD (topA l 1) zeroIL = i at *
  rw [← Bool.not_eq_true, atP_iff] at h0 h1
  have hk9 : ptF i ≠ 8 → kdF i = 9 := kd_above
  unfold stepO; dsimp only
  by_cases e8 : ptF i = 8
  · rw [if_pos e8, if_neg (by omega)]
  · have := hk9 e8
    rw [if_neg e8, if_neg (by omega), if_neg (by omega), if_pos (by omega)]
def NotIn (l : List InstL) (a : Nat) (q : Int) (p : Nat) : Prop := a < l.length → kdF (l.getD a zeroIL) = 9 → ¬ (q ≤ ptF (l.getD a zeroIL) ∧ 2 ≤ ptF (l.getD a zeroIL) ∧ ptF (l.getD a zeroIL) < (p : Int))
theorem partL_step {l : List InstL} {p : Nat} (hp1 : 2 ≤ p) (hp2 : p ≤ 7) {a : Nat} (ha : a ≤ l.length) {q : Int} (q1 : 1 ≤ q) (q2 : q < (p : Int)) (hd : dfaF (l.take a) = some (.top q)) (hn : NotIn l a q p) : ∃ q' : Int, 1 ≤ q' ∧ q' < ((p + 1 : Nat) : Int) ∧ dfaF (l.take (a + topR l p a)) = some (.top q') ∧ NotIn l (a + topR l p a) q' (p + 1) := by
  have hr := run_top (l := l) (p := p) (q := q) rfl (fun i hi => by
      rw [atP_iff] at hi
      have h8 := pt_of_kd9 hi.1
      have h0 := hi.2
      constructor
      · unfold stepO; dsimp only
        rw [if_neg h8, if_neg (by omega), if_neg (by omega), if_neg (by omega), h0]
      · unfold stepO; dsimp only
        rw [if_neg h8, if_neg (by omega), if_neg (by omega), if_neg (by omega), h0]) (topR l p a) a ha (Nat.le_refl _) hd
  have hs := topR_stop (l := l) (p := p) l.length a (by omega) ha
  generalize topR l p a = n at *
  by_cases e0 : n = 0
  · subst e0
    rw [if_pos rfl] at hr
    refine ⟨q, q1, by omega, hr, fun hlt hk => ?_⟩
    have hs := hs hlt
    have hn := hn hlt hk
    rw [← Bool.not_eq_true, atP_iff] at hs
    have e : l.getD (a + 0) zeroIL = l.getD a zeroIL := rfl
    rw [e] at hs hk ⊢
    omega
  · rw [if_neg e0] at hr
    refine ⟨(p : Int), by omega, by omega, hr, fun hlt hk => ?_⟩
    have hs := hs hlt
    rw [← Bool.not_eq_true, atP_iff] at hs
    omega
theorem topA_step {l : List InstL} {p : Nat} (h : p ≠ 1) : topA l (p + 1) = topA l p + topR l p (topA l p) := by
  rw [topA]; unfold topN; rw [if_neg h]
theorem top_q {l : List InstL} (h : topA l 2 ≠ topA l 1) : ∀ p : Nat, 2 ≤ p → p ≤ 8 → ∃ q : Int, 1 ≤ q ∧ q < (p : Int) ∧ dfaF (l.take (topA l p)) = some (.top q) ∧ NotIn l (topA l p) q p := by
  intro p
  induction p with
  | zero => intro h1; omega
  | succ p ih =>
    intro h1 h2
    by_cases e1 : p = 1
    · subst e1
      have hN : topA l 2 = topA l 1 + 1 := by
        have e : topA l 2 = topA l 1 + min 1 (topR l 1 (topA l 1)) := rfl
        omega
      have hlt : topA l 1 < l.length := by have := topA_le (l := l) 2; omega
      have ha := topN_all (l := l) (p := 1) (j := topA l 1) (Nat.le_refl _) (by show topA l 1 < topA l 2; omega)
      rw [atP_iff] at ha
      refine ⟨1, by omega, by omega, ?_, fun _ _ => by omega⟩
      show dfaF (l.take (topA l 2)) = _
      rw [hN, dfa_next hlt top_first]
      have h8 := pt_of_kd9 ha.1
      have h1 : ptF (l.getD (topA l 1) zeroIL) = 1 := ha.2
      unfold stepO; dsimp only
      rw [if_neg h8, if_neg (by omega), if_pos h1, if_pos rfl]
    · obtain ⟨q, q1, q2, hd, hn⟩ := ih (by omega) (by omega)
      rw [topA_step e1]
      exact partL_step (by omega) (by omega) (topA_le p) q1 q2 hd hn
theorem fun_step {i : InstL} {q : Int} (hi : i.Known) (q1 : 1 ≤ q) (hn : kdF i = 9 → ¬ (q ≤ ptF i ∧ 2 ≤ ptF i ∧ ptF i < 8)) : (kdF i ≠ 1 → stepO (.top q) i = none) ∧ (kdF i = 1 → stepO (.top q) i = some .fn) := by
  have hpt := pt_le hi
  have hc := kd_cases i
  constructor
  · intro hk
    unfold stepO; dsimp only
    by_cases e8 : ptF i = 8
    · rw [if_pos e8, if_neg (by omega)]
    · have h9 := kd_above e8
      have := hn h9
      rw [if_neg e8]
      by_cases e1 : ptF i < q
      · rw [if_pos e1]
      · rw [if_neg e1, if_pos (by omega), if_neg (by omega)]
  · intro hk
    unfold stepO; dsimp only
    rw [if_pos (by omega), if_pos ⟨q1, by omega⟩]
theorem top_some {l : List InstL} (hkn : ∀ i ∈ l, i.Known) (h : topA l 2 ≠ topA l 1) : ∃ q : Int, 1 ≤ q ∧ dfaF (l.take (topA l 8)) = some (.top q) ∧ (topA l 8 < l.length → (kdF (l.getD (topA l 8) zeroIL) ≠ 1 → stepO (.top q) (l.getD (topA l 8) zeroIL) = none) ∧ (kdF (l.getD (topA l 8) zeroIL) = 1 → stepO (.top q) (l.getD (topA l 8) zeroIL) = some .fn)) := by
  obtain ⟨q, q1, q2, hd, hn⟩ := top_q h 8 (by omega) (Nat.le_refl _)
  refine ⟨q, q1, hd, fun hlt => ?_⟩
  exact fun_step (hkn _ (getD_memD hlt)) q1 (hn hlt)
structure BlkL where
  label : Int
  beg : Int
  to : Int
  deriving DecidableEq
structure FunL where
  id : Int
  at_ : Int
  params : List Int
  blocks : List BlkL
  fin : Int
  deriving DecidableEq
def onLast {α : Type} (g : α → α) : List α → List α
  | [] => []
  | [x] => [g x]
  | x :: y :: r => x :: onLast g (y :: r)
theorem onLast_snoc {α : Type} (g : α → α) (x : α) : ∀ l : List α, onLast g (l ++ [x]) = l ++ [g x]
  | [] => rfl
  | [y] => rfl
  | y :: z :: r => by
    have := onLast_snoc g x (z :: r)
    simp only [List.cons_append] at this ⊢
    rw [onLast, this]
def addF (fs : List FunL) (k : Nat) (i : InstL) : List FunL :=
  if i.op = 54 then fs ++ [⟨i.res, (k : Int), [], [], 0⟩]
  else if i.op = 55 then onLast (fun f => { f with params := f.params ++ [(k : Int)] }) fs
  else if i.op = 56 then onLast (fun f => { f with fin := (k : Int) }) fs
  else if i.op = 248 then onLast (fun f => { f with blocks := f.blocks ++ [⟨i.res, (k : Int), 0⟩] }) fs
  else if endsB i.op = true then onLast (fun f => { f with blocks := onLast (fun b => { b with to := ((k + 1 : Nat) : Int) }) f.blocks }) fs
  else fs
def funsK (l : List InstL) : Nat → List FunL
  | 0 => []
  | k + 1 => addF (funsK l k) k (l.getD k zeroIL)
theorem add_plain {fs : List FunL} {k : Nat} {i : InstL} (hi : i.Known) (h : kdF i = 9 ∨ kdF i = 4 ∨ kdF i = 5 ∨ kdF i = 6 ∨ kdF i = 0) : addF fs k i = fs := by
  have hc := kd_cases i
  have hin : kdF i = 9 → opsIn i.op = false := fun h9 => by
    have := pt_of_kd9 h9
    cases ho : opsIn i.op with
    | false => rfl
    | true => exact absurd (pt_in hi ho) this
  have hne : i.op ≠ 54 ∧ i.op ≠ 55 ∧ i.op ≠ 56 ∧ i.op ≠ 248 ∧ ¬ (249 ≤ i.op ∧ i.op ≤ 255) := by
    rcases h with h | h
    · have := hin h
      unfold opsIn at this
      have := of_decide_eq_false this
      omega
    · omega
  unfold addF
  rw [if_neg hne.1, if_neg hne.2.1, if_neg hne.2.2.1, if_neg hne.2.2.2.1, if_neg (fun e => hne.2.2.2.2 (endsB_iff.1 e))]
theorem funs_top {l : List InstL} (hkn : ∀ i ∈ l, i.Known) : ∀ {k : Nat}, k ≤ l.length → (∀ j, j < k → kdF (l.getD j zeroIL) = 9) → funsK l k = []
  | 0, _, _ => rfl
  | k + 1, hk, h => by
    rw [funsK, add_plain (hkn _ (getD_memD (by omega))) (.inl (h k (by omega)))]
    exact funs_top hkn (by omega) fun j hj => h j (by omega)
theorem funs_run {l : List InstL} (hkn : ∀ i ∈ l, i.Known) {kd : Int} (hk9 : kd = 4 ∨ kd = 5 ∨ kd = 0) : ∀ (n k : Nat), l.length - k ≤ n → k ≤ l.length → funsK l (k + runN l kd k) = funsK l k
  | n, k, hn, hk => by
    by_cases h : k < l.length
    · rw [run_step h]
      by_cases he : kdF (l.getD k zeroIL) = kd
      · rw [if_pos he]
        match n, hn with
        | 0, hn => omega
        | n + 1, hn =>
          rw [show k + (runN l kd (k + 1) + 1) = k + 1 + runN l kd (k + 1) by omega, funs_run hkn hk9 n (k + 1) (by omega) (by omega), funsK, add_plain (hkn _ (getD_memD h)) (by omega)]
      · rw [if_neg he, Nat.add_zero]
    · rw [run_out h, Nat.add_zero]
def places (k n : Nat) : List Int := (List.range' k n).map fun j : Nat => (j : Int)
theorem places_snoc (k n : Nat) : places k (n + 1) = places k n ++ [((k + n : Nat) : Int)] := by
  unfold places
  rw [List.range'_1_concat, List.map_append]; rfl
theorem places_len (k n : Nat) : (places k n).length = n := by simp [places]
theorem op_of_kd {i : InstL} {c : Int} (h : kdF i = c) : (c = 1 → i.op = 54) ∧ (c = 2 → i.op = 55) ∧ (c = 3 → i.op = 248) ∧ (c = 8 → i.op = 56) ∧ (c = 7 → 249 ≤ i.op ∧ i.op ≤ 255) := by
  have := kd_cases i
  omega
theorem run_all {l : List InstL} {kd : Int} : ∀ (n k : Nat), n ≤ runN l kd k → ∀ j, k ≤ j → j < k + n → kdF (l.getD j zeroIL) = kd
  | 0, k, _, j, h1, h2 => absurd h2 (by omega)
  | n + 1, k, hn, j, h1, h2 => by
    have hlt : k < l.length := Classical.byContradiction fun e => by rw [run_out e] at hn; omega
    rw [run_step hlt] at hn
    split at hn
    · rename_i he
      by_cases e : j = k
      · subst e; exact he
      · exact run_all n (k + 1) (by omega) j (by omega) (by omega)
    · omega
theorem funs_par {l : List InstL} {fs : List FunL} {f : FunL} : ∀ (n k : Nat), k + n ≤ l.length → n ≤ runN l 2 k → funsK l k = fs ++ [f] → funsK l (k + n) = fs ++ [{ f with params := f.params ++ places k n }]
  | 0, k, _, _, hf => by rw [Nat.add_zero, hf]; simp [places]
  | n + 1, k, hk, hn, hf => by
    have ih := funs_par n k (by omega) (by omega) hf
    have hkd : kdF (l.getD (k + n) zeroIL) = 2 := run_all (n + 1) k hn (k + n) (by omega) (by omega)
    have hop := (op_of_kd hkd).2.1 rfl
    rw [show k + (n + 1) = k + n + 1 by omega, funsK, ih]
    unfold addF
    rw [if_neg (by omega), if_pos hop, onLast_snoc, places_snoc]
    simp
end Go.SK
namespace Go.SK
theorem mayO_iff {op ah : Int} {f : Bool} : mayO op ah f = true ↔ (op = 54 ∧ (ah = 0 ∨ ah = 56)) ∨ (op = 55 ∧ (ah = 54 ∨ ah = 55)) ∨ (op = 248 ∧ (ah = 54 ∨ ah = 55 ∨ (249 ≤ ah ∧ ah ≤ 255))) ∨ (op = 56 ∧ (249 ≤ ah ∧ ah ≤ 255)) ∨
    ((op ≠ 54 ∧ op ≠ 55 ∧ op ≠ 248 ∧ op ≠ 56) ∧ (ah ≠ 0 ∧ ah ≠ 54 ∧ ah ≠ 55 ∧ ah ≠ 56 ∧ ¬ (249 ≤ ah ∧ ah ≤ 255)) ∧ ((op = 245 ∧ (ah = 248 ∨ ah = 245) ∧ f = false) ∨ (op = 59 ∧ (ah = 248 ∨ ah = 59) ∧ f = true) ∨ (op ≠ 245 ∧ op ≠ 59 ∧ (ah = 246 → op = 249 ∨ op = 250) ∧ (ah = 247 → op = 250 ∨ op = 251)))) := by
  unfold mayO
  simp only [endsB_iff]
  split
  · rename_i h; rw [decide_eq_true_iff]; omega
  · split
    · rename_i h; rw [decide_eq_true_iff]; omega
    · split
      · rename_i h; rw [decide_eq_true_iff]; omega
      · split
        · rename_i h; rw [endsB_iff]; omega
        · split
          · rename_i h
            refine ⟨fun e => (Bool.noConfusion e), fun e => ?_⟩
            exfalso
            omega
          · rename_i a1 a2 a3 a4 a5
            split
            · rename_i h
              rw [decide_eq_true_iff]
              constructor
              · intro e; exact .inr (.inr (.inr (.inr ⟨⟨a1, a2, a3, a4⟩, by omega, .inl ⟨h, e.1, e.2⟩⟩)))
              · rintro (e | e | e | e | ⟨_, _, e | e | e⟩)
                · omega
                · omega
                · omega
                · omega
                · exact ⟨e.2.1, e.2.2⟩
                · omega
                · omega
            · rename_i b1
              split
              · rename_i h
                rw [decide_eq_true_iff]
                constructor
                · intro e; exact .inr (.inr (.inr (.inr ⟨⟨a1, a2, a3, a4⟩, by omega, .inr (.inl ⟨h, e.1, e.2⟩)⟩)))
                · rintro (e | e | e | e | ⟨_, _, e | e | e⟩)
                  · omega
                  · omega
                  · omega
                  · omega
                  · omega
                  · exact ⟨e.2.1, e.2.2⟩
                  · omega
              · rename_i b2
                have key : ∀ P : Prop, (P ↔ (ah = 246 → op = 249 ∨ op = 250) ∧ (ah = 247 → op = 250 ∨ op = 251)) → (P ↔ (op = 54 ∧ (ah = 0 ∨ ah = 56)) ∨ (op = 55 ∧ (ah = 54 ∨ ah = 55)) ∨ (op = 248 ∧ (ah = 54 ∨ ah = 55 ∨ (249 ≤ ah ∧ ah ≤ 255))) ∨ (op = 56 ∧ (249 ≤ ah ∧ ah ≤ 255)) ∨
    ((op ≠ 54 ∧ op ≠ 55 ∧ op ≠ 248 ∧ op ≠ 56) ∧ (ah ≠ 0 ∧ ah ≠ 54 ∧ ah ≠ 55 ∧ ah ≠ 56 ∧ ¬ (249 ≤ ah ∧ ah ≤ 255)) ∧ ((op = 245 ∧ (ah = 248 ∨ ah = 245) ∧ f = false) ∨ (op = 59 ∧ (ah = 248 ∨ ah = 59) ∧ f = true) ∨ (op ≠ 245 ∧ op ≠ 59 ∧ (ah = 246 → op = 249 ∨ op = 250) ∧ (ah = 247 → op = 250 ∨ op = 251))))) := by
                  intro P hP
                  rw [hP]
                  constructor
                  · intro e; exact .inr (.inr (.inr (.inr ⟨⟨a1, a2, a3, a4⟩, by omega, .inr (.inr ⟨b1, b2, e⟩)⟩)))
                  · rintro (e | e | e | e | ⟨_, _, e | e | e⟩)
                    · omega
                    · omega
                    · omega
                    · omega
                    · omega
                    · omega
                    · exact e.2.2
                refine key _ ?_
                split
                · rename_i h; rw [decide_eq_true_iff]; omega
                · split
                  · rename_i h h2; rw [decide_eq_true_iff]; omega
                  · rename_i h h2; simp; omega
theorem mayM_iff {o op : Int} : mayM o op = true ↔ (op = 251 ∧ o = 247) ∨ (op = 249 ∧ o = 246) ∨ op = 250 := by
  unfold mayM
  split
  · rw [decide_eq_true_iff]; omega
  · split
    · rw [decide_eq_true_iff]; omega
    · rw [decide_eq_true_iff]; omega
section
variable {i : InstL}
theorem step_fn : (stepO .fn i).isSome = true ↔ kdF i = 2 ∨ kdF i = 3 := by
  unfold stepO; simp only
  split
  · simp; omega
  · split
    · simp; omega
    · simp; omega
theorem step_blk {f : Bool} {c : Int} (hc : (if f = true then (5 : Int) else 4) = c) : (stepO (.blk f) i).isSome = true ↔ kdF i = c ∨ kdF i = 0 ∨ kdF i = 6 ∨ kdF i = 7 := by
  unfold stepO; simp only
  rw [hc]
  split
  · simp; omega
  · split
    · simp; omega
    · split
      · simp; omega
      · split
        · simp; omega
        · simp; omega
theorem step_pl : (stepO .pl i).isSome = true ↔ kdF i = 0 ∨ kdF i = 6 ∨ kdF i = 7 := by
  unfold stepO; simp only
  split
  · simp; omega
  · split
    · simp; omega
    · split
      · simp; omega
      · simp; omega
theorem step_mg {o : Int} : (stepO (.mg o) i).isSome = true ↔ kdF i = 7 ∧ mayM o i.op = true := by
  unfold stepO; simp only
  split
  · rename_i h; exact ⟨fun _ => h, fun _ => rfl⟩
  · rename_i h; exact ⟨fun e => (by cases e), fun e => absurd e h⟩
theorem step_en : (stepO .en i).isSome = true ↔ kdF i = 3 ∨ kdF i = 8 := by
  unfold stepO; simp only
  split
  · simp; omega
  · split
    · simp; omega
    · simp; omega
theorem step_zz : (stepO .zz i).isSome = true ↔ kdF i = 1 := by
  unfold stepO; simp only
  split
  · simp; omega
  · simp; omega
theorem step_top {p : Int} : (stepO (.top p) i).isSome = true ↔ (ptF i = 8 ∧ 1 ≤ p ∧ i.op = 54) ∨ (ptF i ≠ 8 ∧ ¬ ptF i < p ∧ ((ptF i = 1 ∧ p = 0) ∨ (ptF i ≠ 1 ∧ ¬ (1 < ptF i ∧ p = 0)))) := by
  unfold stepO; simp only
  split
  · split
    · simp; omega
    · simp; omega
  · split
    · simp; omega
    · split
      · split
        · simp; omega
        · simp; omega
      · split
        · simp; omega
        · simp; omega
end
theorem bool_iff {a b : Bool} (h : a = true ↔ b = true) : a = b := by
  cases a <;> cases b <;> simp_all
set_option maxHeartbeats 4000000 in
theorem may_step {l : List InstL} (hkn : ∀ i ∈ l, i.Known) {k : Nat} {S : LS} (h : k < l.length) (hp : aheadS l k S) : mayB l k = (stepO S (l.getD k zeroIL)).isSome := by
  have hi : (l.getD k zeroIL).Known := hkn _ (getD_memD h)
  have hpt := pt_le hi
  have hkc := kd_cases (l.getD k zeroIL)
  have hP : ptA l k = ptF (l.getD k zeroIL) := rfl
  have hO : opA l k = (l.getD k zeroIL).op := rfl
  have hle : ∀ j, j < k → ptA l j ≤ 8 := fun j hj => (pt_le (hkn _ (getD_memD (show j < l.length by omega)))).2
  have ho8 : ptF (l.getD k zeroIL) = 8 → overB l k (ptA l k) = false := fun e => by
    rw [← Bool.not_eq_true, overB_iff (by omega)]
    rintro ⟨j, h1, h2⟩
    have := hle j h1
    omega
  have hfun : 0 < k → cnt1 l k ≠ 0 → ptA l (k - 1) = 8 → mayB l k = (decide (ptF (l.getD k zeroIL) = 8) && mayO (opA l k) (opA l (k - 1)) (firstF l (k - 1))) := fun q0 q1 q2 => by
    unfold mayB
    by_cases e : ptF (l.getD k zeroIL) = 8
    · rw [ho8 e, if_neg (by decide), if_neg (by omega), if_neg (fun hx => q1 hx.2), if_neg (by omega), decide_eq_true e, Bool.true_and]
      unfold aheadF
      rw [if_pos ⟨q0, q2⟩]
    · rw [if_pos ((overB_iff (by omega)).2 ⟨k - 1, by omega, by omega⟩), decide_eq_false e, Bool.false_and]
  cases S with
  | top p =>
    obtain ⟨⟨p0, p1⟩, p2, p3, p4⟩ := hp
    have hover : ∀ q : Int, 0 ≤ q → (overB l k q = true ↔ q < p) := fun q hq => by
      rw [overB_iff (by omega)]
      constructor
      · rintro ⟨j, h1, h2⟩; have := p2 j h1; omega
      · intro hqp
        obtain ⟨j, h1, h2⟩ := p3 (by omega)
        exact ⟨j, h1, by omega⟩
    refine bool_iff ?_
    rw [step_top]
    unfold mayB
    by_cases e : ptF (l.getD k zeroIL) = 8
    · rw [ho8 e, if_neg (by decide), if_neg (by omega)]
      by_cases hc : cnt1 l k = 0
      · rw [if_pos ⟨by omega, hc⟩]
        have := p4.1 hc
        refine ⟨fun hx => (Bool.noConfusion hx), fun hx => ?_⟩
        exfalso; omega
      · rw [if_neg (fun hx => hc hx.2), if_neg (by omega)]
        have ha : aheadF l k = 0 := by
          unfold aheadF
          refine if_neg fun hx => ?_
          have := p2 (k - 1) (by omega)
          omega
        rw [ha, mayO_iff]
        have : ¬ p = 0 := fun e => hc (p4.2 e)
        omega
    · have ho := hover (ptA l k) (by omega)
      by_cases hq : ptA l k < p
      · rw [if_pos (ho.2 hq)]
        refine ⟨fun hx => (Bool.noConfusion hx), fun hx => ?_⟩
        exfalso; omega
      · rw [if_neg (fun hx => hq (ho.1 hx))]
        by_cases h1 : ptA l k = 1
        · rw [if_pos h1, decide_eq_true_iff, p4]; omega
        · rw [if_neg h1]
          by_cases h2 : 1 < ptA l k ∧ cnt1 l k = 0
          · rw [if_pos h2]
            have := p4.1 h2.2
            refine ⟨fun hx => (Bool.noConfusion hx), fun hx => ?_⟩
            exfalso; omega
          · rw [if_neg h2, if_pos (by omega)]
            refine ⟨fun _ => ?_, fun _ => rfl⟩
            by_cases hc : cnt1 l k = 0
            · have := p4.1 hc; omega
            · have : ¬ p = 0 := fun e => hc (p4.2 e); omega
  | fn =>
    obtain ⟨q0, q1, q2, q3⟩ := hp
    rw [hfun q0 q1 q2]
    refine bool_iff ?_
    rw [Bool.and_eq_true, decide_eq_true_iff, mayO_iff, step_fn]
    rcases hkc with ⟨hk, hq⟩ | ⟨hq, ⟨hk, ho⟩ | ⟨hk, ho⟩ | ⟨hk, ho⟩ | ⟨hk, ho⟩ | ⟨hk, ho⟩ | ⟨hk, ho⟩ | ⟨hk, ho⟩ | ⟨hk, ho⟩ | ⟨hk, ho⟩⟩ <;> omega
  | blk f =>
    obtain ⟨q0, q1, q2, q3, q4, q5⟩ := hp
    rw [hfun q0 q1 q2, q4]
    refine bool_iff ?_
    cases f
    · rw [if_neg (by decide)] at q3
      rw [Bool.and_eq_true, decide_eq_true_iff, mayO_iff, step_blk (c := 4) rfl]
      simp only [and_true, Bool.false_eq_true, and_false, false_or]
      rcases hkc with ⟨hk, hq⟩ | ⟨hq, ⟨hk, ho⟩ | ⟨hk, ho⟩ | ⟨hk, ho⟩ | ⟨hk, ho⟩ | ⟨hk, ho⟩ | ⟨hk, ho⟩ | ⟨hk, ho⟩ | ⟨hk, ho⟩ | ⟨hk, ho⟩⟩ <;> omega
    · rw [if_pos rfl] at q3
      rw [Bool.and_eq_true, decide_eq_true_iff, mayO_iff, step_blk (c := 5) rfl]
      simp only [and_true, Bool.true_eq_false, and_false, false_or]
      rcases hkc with ⟨hk, hq⟩ | ⟨hq, ⟨hk, ho⟩ | ⟨hk, ho⟩ | ⟨hk, ho⟩ | ⟨hk, ho⟩ | ⟨hk, ho⟩ | ⟨hk, ho⟩ | ⟨hk, ho⟩ | ⟨hk, ho⟩ | ⟨hk, ho⟩⟩ <;> omega
  | pl =>
    obtain ⟨q0, q1, q2, q3⟩ := hp
    rw [hfun q0 q1 q2]
    refine bool_iff ?_
    have hk2 := kd_cases (l.getD (k - 1) zeroIL)
    have hO2 : opA l (k - 1) = (l.getD (k - 1) zeroIL).op := rfl
    have hne : opA l (k - 1) ≠ 0 := known_pos (hkn _ (getD_memD (by omega)))
    have hB : opA l (k - 1) ≠ 54 ∧ opA l (k - 1) ≠ 55 ∧ opA l (k - 1) ≠ 56 ∧ opA l (k - 1) ≠ 248 ∧ opA l (k - 1) ≠ 245 ∧ opA l (k - 1) ≠ 59 ∧ opA l (k - 1) ≠ 246 ∧ opA l (k - 1) ≠ 247 ∧ ¬ (249 ≤ opA l (k - 1) ∧ opA l (k - 1) ≤ 255) := by omega
    clear hk2
    rw [Bool.and_eq_true, decide_eq_true_iff, mayO_iff, step_pl]
    cases firstF l (k - 1)
    · simp only [and_true, Bool.false_eq_true, and_false, false_or]; rcases hkc with ⟨hk, hq⟩ | ⟨hq, ⟨hk, ho⟩ | ⟨hk, ho⟩ | ⟨hk, ho⟩ | ⟨hk, ho⟩ | ⟨hk, ho⟩ | ⟨hk, ho⟩ | ⟨hk, ho⟩ | ⟨hk, ho⟩ | ⟨hk, ho⟩⟩ <;> omega
    · simp only [and_true, Bool.true_eq_false, and_false, false_or]; rcases hkc with ⟨hk, hq⟩ | ⟨hq, ⟨hk, ho⟩ | ⟨hk, ho⟩ | ⟨hk, ho⟩ | ⟨hk, ho⟩ | ⟨hk, ho⟩ | ⟨hk, ho⟩ | ⟨hk, ho⟩ | ⟨hk, ho⟩ | ⟨hk, ho⟩⟩ <;> omega
  | mg o =>
    obtain ⟨q0, q1, q2, q3, q4⟩ := hp
    rw [hfun q0 q1 q2]
    refine bool_iff ?_
    have hq4 : opA l (k - 1) = 246 ∨ opA l (k - 1) = 247 := by omega
    rw [Bool.and_eq_true, decide_eq_true_iff, mayO_iff, step_mg, mayM_iff, ← q3]
    generalize opA l (k - 1) = ah at *
    have hB : ah ≠ 0 ∧ ah ≠ 54 ∧ ah ≠ 55 ∧ ah ≠ 56 ∧ ¬ (249 ≤ ah ∧ ah ≤ 255) := by omega
    have hC : ¬ (ah = 248 ∨ ah = 245) ∧ ¬ (ah = 248 ∨ ah = 59) := by omega
    simp only [hB, hC, ne_eq, not_false_eq_true, and_self, false_and, and_false, false_or, true_and]
    rcases hkc with ⟨hk, hq⟩ | ⟨hq, ⟨hk, ho⟩ | ⟨hk, ho⟩ | ⟨hk, ho⟩ | ⟨hk, ho⟩ | ⟨hk, ho⟩ | ⟨hk, ho⟩ | ⟨hk, ho⟩ | ⟨hk, ho⟩ | ⟨hk, ho⟩⟩ <;> omega
  | en =>
    obtain ⟨q0, q1, q2, q3⟩ := hp
    rw [hfun q0 q1 q2]
    refine bool_iff ?_
    rw [Bool.and_eq_true, decide_eq_true_iff, mayO_iff, step_en]
    rcases hkc with ⟨hk, hq⟩ | ⟨hq, ⟨hk, ho⟩ | ⟨hk, ho⟩ | ⟨hk, ho⟩ | ⟨hk, ho⟩ | ⟨hk, ho⟩ | ⟨hk, ho⟩ | ⟨hk, ho⟩ | ⟨hk, ho⟩ | ⟨hk, ho⟩⟩ <;> omega
  | zz =>
    obtain ⟨q0, q1, q2, q3⟩ := hp
    rw [hfun q0 q1 q2]
    refine bool_iff ?_
    rw [Bool.and_eq_true, decide_eq_true_iff, mayO_iff, step_zz]
    rcases hkc with ⟨hk, hq⟩ | ⟨hq, ⟨hk, ho⟩ | ⟨hk, ho⟩ | ⟨hk, ho⟩ | ⟨hk, ho⟩ | ⟨hk, ho⟩ | ⟨hk, ho⟩ | ⟨hk, ho⟩ | ⟨hk, ho⟩ | ⟨hk, ho⟩⟩ <;> omega
end Go.SK
namespace Go.SK
theorem getD_map (l : List InstP) (k : Nat) : (l.map InstP.L).getD k zeroIL = (l.getD k zeroI).L := by
  by_cases h : k < l.length
  · exact map_getD2 InstP.L zeroI h
  · simp [List.getD, List.getElem?_eq_none (show l.length ≤ k by omega)]; rfl
theorem ptA_map (l : List InstP) (k : Nat) : ptA (l.map InstP.L) k = ptF (l.getD k zeroI).L := by unfold ptA; rw [getD_map]
theorem opA_map (l : List InstP) (k : Nat) : opA (l.map InstP.L) k = (l.getD k zeroI).op := by unfold opA; rw [getD_map]
theorem nx_map {l : List InstP} {k : Nat} (h : k < l.length) : nxF (l.map InstP.L) k = kdF (l.getD k zeroI).L := by
  unfold nxF; rw [if_pos (by rw [List.length_map]; exact h), getD_map]
theorem nx_out {l : List InstP} {k : Nat} (h : ¬ k < l.length) : nxF (l.map InstP.L) k = -1 := by
  unfold nxF; rw [if_neg (by rw [List.length_map]; exact h)]
theorem known_map {l : List InstP} (h : ∀ i ∈ l, i.L.Known) : ∀ i ∈ l.map InstP.L, i.Known := fun i hi => by
  obtain ⟨j, hj, rfl⟩ := List.mem_map.1 hi
  exact h j hj
theorem label_of {l : List InstL} (hkn : ∀ i ∈ l, i.Known) {k : Nat} {S : LS} (hk : k ≤ l.length) (hp : aheadS l k S) (h : aheadF l k = 248 ∨ aheadF l k = 245 ∨ aheadF l k = 59) : 0 < k ∧ ∃ j, 1 ≤ j ∧ j ≤ k - 1 ∧ opA l j = 248 := by
  unfold aheadF at h
  split at h
  · rename_i h0
    cases S with
    | top p =>
      obtain ⟨⟨p0, p1⟩, p2, p3, p4⟩ := hp
      have := p2 (k - 1) (by omega)
      omega
    | fn => obtain ⟨q0, q1, q2, q3⟩ := hp; omega
    | blk f => obtain ⟨q0, q1, q2, q3, q4, q5⟩ := hp; exact ⟨q0, q5⟩
    | pl =>
      obtain ⟨q0, q1, q2, q3⟩ := hp
      have hk2 := kd_cases (l.getD (k - 1) zeroIL)
      have hO2 : opA l (k - 1) = (l.getD (k - 1) zeroIL).op := rfl
      omega
    | mg o => obtain ⟨q0, q1, q2, q3, q4⟩ := hp; omega
    | en => obtain ⟨q0, q1, q2, q3⟩ := hp; omega
    | zz => obtain ⟨q0, q1, q2, q3⟩ := hp; omega
  · omega
theorem fin_of {l : List InstL} (hkn : ∀ i ∈ l, i.Known) {k : Nat} {S : LS} (hk : k ≤ l.length) (hp : aheadS l k S) : S.fin = true ↔ ¬ (cnt1 l k = 0 ∨ (ptA l (k - 1) = 8 ∧ opA l (k - 1) ≠ 56)) := by
  cases S with
  | top p =>
    obtain ⟨⟨p0, p1⟩, p2, p3, p4⟩ := hp
    unfold LS.fin
    rw [decide_eq_true_iff]
    by_cases hc : cnt1 l k = 0
    · have := p4.1 hc; omega
    · have h0 : ¬ p = 0 := fun e => hc (p4.2 e)
      have hk0 : 0 < k := Nat.pos_of_ne_zero fun e => by subst e; exact hc (by simp [cnt1])
      have := p2 (k - 1) (by omega)
      omega
  | fn => obtain ⟨q0, q1, q2, q3⟩ := hp; unfold LS.fin; simp only [Bool.false_eq_true, false_iff]; omega
  | blk f =>
    obtain ⟨q0, q1, q2, q3, q4, q5⟩ := hp; unfold LS.fin; simp only [Bool.false_eq_true, false_iff]
    cases f
    · rw [if_neg (by decide)] at q3; omega
    · rw [if_pos rfl] at q3; omega
  | pl =>
    obtain ⟨q0, q1, q2, q3⟩ := hp; unfold LS.fin; simp only [Bool.false_eq_true, false_iff]
    have hk2 := kd_cases (l.getD (k - 1) zeroIL)
    have hO2 : opA l (k - 1) = (l.getD (k - 1) zeroIL).op := rfl
    omega
  | mg o => obtain ⟨q0, q1, q2, q3, q4⟩ := hp; unfold LS.fin; simp only [Bool.false_eq_true, false_iff]; omega
  | en => obtain ⟨q0, q1, q2, q3⟩ := hp; unfold LS.fin; simp only [Bool.false_eq_true, false_iff]; omega
  | zz => obtain ⟨q0, q1, q2, q3⟩ := hp; unfold LS.fin; simp only [true_iff]; omega
theorem may_yes {l : List InstL} (hkn : ∀ i ∈ l, i.Known) {k : Nat} {S : LS} (h : k < l.length) (hd : dfaF (l.take k) = some S) (hm : mayB l k = true) : ∃ S', dfaF (l.take (k + 1)) = some S' := by
  rw [may_step hkn h (ahead_of hkn (by omega) hd)] at hm
  obtain ⟨S', hs⟩ := Option.isSome_iff_exists.1 hm
  exact ⟨S', by rw [dfa_next h hd]; exact hs⟩
theorem may_no {l : List InstL} (hkn : ∀ i ∈ l, i.Known) {k : Nat} {S : LS} (h : k < l.length) (hd : dfaF (l.take k) = some S) (hm : mayB l k = false) : orderF l = (50, (k : Int)) := by
  rw [may_step hkn h (ahead_of hkn (by omega) hd)] at hm
  refine order_stop h hd ?_
  cases hs : stepO S (l.getD k zeroIL) with
  | none => rfl
  | some S' => rw [hs] at hm; cases hm
theorem order_end {l : List InstL} (hkn : ∀ i ∈ l, i.Known) {S : LS} (hd : dfaF (l.take l.length) = some S) : (cnt1 l l.length = 0 ∨ (ptA l (l.length - 1) = 8 ∧ opA l (l.length - 1) ≠ 56) → orderF l = (51, (l.length : Int))) ∧ (¬ (cnt1 l l.length = 0 ∨ (ptA l (l.length - 1) = 8 ∧ opA l (l.length - 1) ≠ 56)) → orderF l = (0, 0)) := by
  have hf := fin_of hkn (Nat.le_refl _) (ahead_of hkn (Nat.le_refl _) hd)
  constructor
  · intro h
    refine order_open hd ?_
    rw [← Bool.not_eq_true, hf]
    exact fun e => e h
  · intro h; exact order_good hd (hf.2 h)
theorem first_at {l : List InstL} {k : Nat} (h1 : 1 ≤ k) (h : opA l k = 248) : firstF l k = decide (opA l (k - 1) = 54 ∨ opA l (k - 1) = 55) := by
  obtain ⟨m, rfl⟩ : ∃ m, k = m + 1 := ⟨k - 1, by omega⟩
  rw [firstF, if_pos h]; rfl
theorem first_back {l : List InstL} {k : Nat} (h1 : 1 ≤ k) (h : ¬ opA l k = 248) : firstF l k = firstF l (k - 1) := by
  obtain ⟨m, rfl⟩ : ∃ m, k = m + 1 := ⟨k - 1, by omega⟩
  rw [firstF, if_neg h]; rfl
def checkF (bd : Int) (l : List InstL) : Int × Int := if (shapeF bd l).1 ≠ 0 then shapeF bd l else orderF l
theorem may_248 {ah : Int} (h1 : ¬ ah = 54) (h2 : ¬ ah = 55) : endsB ah = decide (ah = 54 ∨ ah = 55 ∨ endsB ah = true) := by
  cases he : endsB ah
  · exact (decide_eq_false (fun h => h.elim h1 (fun h => h.elim h2 (fun h => by cases h)))).symm
  · exact (decide_eq_true (.inr (.inr rfl))).symm
theorem may_245 {ah : Int} {f : Bool} (h : ah = 248 ∨ ah = 245) : (!f) = decide ((ah = 248 ∨ ah = 245) ∧ f = false) := by
  cases f
  · exact (decide_eq_true ⟨h, rfl⟩).symm
  · exact (decide_eq_false (fun h => by cases h.2)).symm
theorem may_59 {ah : Int} {f : Bool} (h : ah = 248 ∨ ah = 59) : f = decide ((ah = 248 ∨ ah = 59) ∧ f = true) := by
  cases f
  · exact (decide_eq_false (fun h => by cases h.2)).symm
  · exact (decide_eq_true ⟨h, rfl⟩).symm
theorem shape_known {bd : Int} {l : List InstP} (h : (shapeF bd (l.map InstP.L)).1 = 0) : ∀ i ∈ l, i.L.Known := fun i hi => by
  have h1 := encode_good (gn := 0) h
  exact (fault_parts (h1.2.2.2.1 i.L (List.mem_map_of_mem hi))).1
theorem check_shape {bd : Int} {l : List InstL} (h : (shapeF bd l).1 ≠ 0) : checkF bd l = shapeF bd l := if_pos h
theorem check_order {bd : Int} {l : List InstL} (h : (shapeF bd l).1 = 0) : checkF bd l = orderF l := if_neg fun e => e h
end Go.SK
namespace Go.SK
abbrev intC (x : Int) : List Value := [.int .i64 x]
theorem intC_len (x : Int) : (intC x).length = 1 := rfl
abbrev CutR (Tc : TypeId) (bq : Nat) (ao : Option Addr) (n cp : Nat) (k : Nat) (tail : List Value) : Res := Res.row bq Tc (.slice ao n cp :: .int .i64 (k : Int) :: tail)
theorem run_end {l : List InstL} {kd : Int} (hkd : kd ≠ -1) : ∀ (n k : Nat), l.length - k ≤ n → k ≤ l.length → nxF l (k + runN l kd k) ≠ kd
  | n, k, hn, hk => by
    by_cases h : k < l.length
    · rw [run_step h]
      by_cases he : kdF (l.getD k zeroIL) = kd
      · rw [if_pos he]
        match n, hn with
        | 0, hn => omega
        | n + 1, hn =>
          have := run_end (l := l) hkd n (k + 1) (by omega) (by omega)
          rw [show k + (runN l kd (k + 1) + 1) = k + 1 + runN l kd (k + 1) by omega]; exact this
      · rw [if_neg he, Nat.add_zero]
        unfold nxF; rw [if_pos h]; exact he
    · rw [run_out h, Nat.add_zero]
      unfold nxF; rw [if_neg h]; exact fun e => hkd e.symm
theorem run_next {l : List InstL} {kd : Int} (hkd : kd ≠ -1) {k n : Nat} (hk : k ≤ l.length) (hn : n ≤ runN l kd k) : nxF l (k + n) = kd ↔ n < runN l kd k := by
  constructor
  · intro h
    refine Classical.byContradiction fun e => ?_
    obtain rfl : n = runN l kd k := by omega
    exact run_end hkd l.length k (by omega) hk h
  · intro h
    have h1 := run_all (runN l kd k) k (Nat.le_refl _) (k + n) (by omega) (by omega)
    have h2 := run_le (kd := kd) hk
    unfold nxF
    rw [if_pos (by omega)]; exact h1
theorem top_nx {l : List InstL} {p a i : Nat} (ha : a ≤ l.length) (hi : i ≤ topR l p a) : (nxF l (a + i) = 9 ∧ ptA l (a + i) = (p : Int)) ↔ i < topR l p a := by
  have hle := topR_le (p := p) ha
  constructor
  · rintro ⟨h1, h2⟩
    refine Classical.byContradiction fun e => ?_
    obtain rfl : i = topR l p a := by omega
    have hlt : a + topR l p a < l.length := Classical.byContradiction fun e => by unfold nxF at h1; rw [if_neg e] at h1; cases h1
    have := topR_stop (l := l) (p := p) l.length a (by omega) ha hlt
    rw [← Bool.not_eq_true, atP_iff] at this
    unfold nxF at h1
    rw [if_pos hlt] at h1
    exact this ⟨h1, h2⟩
  · intro h
    have h1 := topR_all (topR l p a) a ha (Nat.le_refl _) (a + i) (by omega) (by omega)
    rw [atP_iff] at h1
    unfold nxF
    rw [if_pos (by omega)]
    exact h1
theorem nx_in {l : List InstL} {k : Nat} {c : Int} (h : nxF l k = c) (hc : c ≠ -1 := by decide) : k < l.length := Classical.byContradiction fun e => by
  unfold nxF at h; rw [if_neg e] at h; exact hc h.symm
end Go.SK
namespace Go.SK
section
variable {i : InstL}
theorem s_par (h : kdF i = 2) : stepO .fn i = some .fn := by unfold stepO; dsimp only; rw [if_pos h]
theorem s_lab (h : kdF i = 3) : stepO .fn i = some (.blk true) := by unfold stepO; dsimp only; rw [if_neg (by omega), if_pos h]
theorem s_fn_no (h : kdF i ≠ 2) (h2 : kdF i ≠ 3) : stepO .fn i = none := by unfold stepO; dsimp only; rw [if_neg h, if_neg h2]
theorem s_en (h : kdF i = 3) : stepO .en i = some (.blk false) := by unfold stepO; dsimp only; rw [if_pos h]
theorem s_end (h : kdF i = 8) : stepO .en i = some .zz := by unfold stepO; dsimp only; rw [if_neg (by omega), if_pos h]
theorem s_en_no (h : kdF i ≠ 3) (h2 : kdF i ≠ 8) : stepO .en i = none := by unfold stepO; dsimp only; rw [if_neg h, if_neg h2]
theorem s_blk {f : Bool} {c : Int} (hc : (if f = true then (5 : Int) else 4) = c) (h : kdF i = c) : stepO (.blk f) i = some (.blk f) := by unfold stepO; dsimp only; rw [hc, if_pos h]
theorem s_blk_pl {f : Bool} (h : kdF i = 0) : stepO (.blk f) i = some .pl := by
  unfold stepO; dsimp only
  rw [if_neg (by cases f; (rw [if_neg (by decide)]; omega); (rw [if_pos rfl]; omega)), if_pos h]
theorem s_pl (h : kdF i = 0) : stepO .pl i = some .pl := by unfold stepO; dsimp only; rw [if_pos h]
theorem s_mid {S : LS} {f : Bool} {c : Int} (hc : (if f = true then (5 : Int) else 4) = c) (h : S = .pl ∨ S = .blk f) (h0 : kdF i ≠ 0) (h1 : S = .blk f → kdF i ≠ c) : (kdF i = 6 → stepO S i = some (.mg i.op)) ∧ (kdF i = 7 → stepO S i = some .en) ∧ (kdF i ≠ 6 → kdF i ≠ 7 → stepO S i = none) := by
  rcases h with rfl | rfl
  · unfold stepO; dsimp only
    rw [if_neg h0]
    refine ⟨fun h => by rw [if_pos h], fun h => by rw [if_neg (by omega), if_pos h], fun h h2 => by rw [if_neg h, if_neg h2]⟩
  · have h2 := h1 rfl
    unfold stepO; dsimp only
    rw [hc, if_neg h2, if_neg h0]
    refine ⟨fun h => by rw [if_pos h], fun h => by rw [if_neg (by omega), if_pos h], fun h h2 => by rw [if_neg h, if_neg h2]⟩
theorem s_mg {o : Int} : (kdF i = 7 ∧ mayM o i.op = true → stepO (.mg o) i = some .en) ∧ (¬ (kdF i = 7 ∧ mayM o i.op = true) → stepO (.mg o) i = none) := by
  unfold stepO; dsimp only
  exact ⟨fun h => by rw [if_pos h], fun h => by rw [if_neg h]⟩
end
theorem run_pl {l : List InstL} {S : LS} (hs : ∀ i, kdF i = 0 → stepO S i = some .pl) {k : Nat} (hk : k ≤ l.length) (hd : dfaF (l.take k) = some S) : ∃ S', dfaF (l.take (k + runN l 0 k)) = some S' ∧ (S' = .pl ∨ (S' = S ∧ runN l 0 k = 0)) := by
  by_cases h0 : runN l 0 k = 0
  · rw [h0]; exact ⟨S, hd, .inr ⟨rfl, rfl⟩⟩
  · have hlt : k < l.length := Classical.byContradiction fun e => h0 (run_out e)
    have hst := run_step (kd := 0) hlt
    split at hst
    · rename_i he
      have h1 : dfaF (l.take (k + 1)) = some .pl := by rw [dfa_next hlt hd, hs _ he]
      have h2 := run_dfa (l := l) (kd := 0) (by decide) (fun i hi => s_pl hi) l.length (k + 1) (by omega) (by omega) h1
      refine ⟨.pl, ?_, .inl rfl⟩
      rw [hst, show k + (runN l 0 (k + 1) + 1) = k + 1 + runN l 0 (k + 1) by omega]
      exact h2.1
    · exact absurd hst h0
def BlkPre (l : List InstL) (a : Nat) (fs : List FunL) (f : FunL) : Prop := nxF l a = 3 ∧ funsK l a = fs ++ [f] ∧ ((f.blocks = [] ∧ dfaF (l.take a) = some .fn) ∨ (f.blocks ≠ [] ∧ dfaF (l.take a) = some .en))
def Done (l : List InstL) (a e : Nat) (fs : List FunL) (f : FunL) : Prop := e ≤ l.length ∧ dfaF (l.take e) = some .en ∧ funsK l e = fs ++ [{ f with blocks := f.blocks ++ [⟨(l.getD a zeroIL).res, (a : Int), (e : Int)⟩] }]
def blkC (f : FunL) : Int := if f.blocks.length = 0 then 5 else 4
def blkA (l : List InstL) (a : Nat) (f : FunL) : Nat := a + 1 + runN l (blkC f) (a + 1)
def blkZ (l : List InstL) (a : Nat) (f : FunL) : Nat := blkA l a f + runN l 0 (blkA l a f)
theorem nx_kd {l : List InstL} {k : Nat} (h : k < l.length) : nxF l k = kdF (l.getD k zeroIL) := if_pos h
theorem add_end {fs : List FunL} {f : FunL} {bs : List BlkL} {b : BlkL} {k : Nat} {i : InstL} (h : kdF i = 7) : addF (fs ++ [{ f with blocks := bs ++ [b] }]) k i = fs ++ [{ f with blocks := bs ++ [{ b with to := ((k + 1 : Nat) : Int) }] }] := by
  have ho := (op_of_kd h).2.2.2.2 rfl
  unfold addF
  rw [if_neg (by omega), if_neg (by omega), if_neg (by omega), if_neg (by omega), if_pos (endsB_iff.2 ho), onLast_snoc]
  simp only
  rw [onLast_snoc]
theorem blk_go {l : List InstL} (hkn : ∀ i ∈ l, i.Known) {a : Nat} {fs : List FunL} {f : FunL} (hp : BlkPre l a fs f) :
    blkZ l a f ≤ l.length ∧ blkA l a f ≤ l.length ∧ a < l.length ∧
    (nxF l (blkZ l a f) = 6 → (nxF l (blkZ l a f + 1) = 7 ∧ mayM (opA l (blkZ l a f)) (opA l (blkZ l a f + 1)) = true → Done l a (blkZ l a f + 2) fs f) ∧ (¬ (nxF l (blkZ l a f + 1) = 7 ∧ mayM (opA l (blkZ l a f)) (opA l (blkZ l a f + 1)) = true) → Stuck l (blkZ l a f + 1))) ∧
    (nxF l (blkZ l a f) = 7 → Done l a (blkZ l a f + 1) fs f) ∧ (nxF l (blkZ l a f) ≠ 6 → nxF l (blkZ l a f) ≠ 7 → Stuck l (blkZ l a f)) := by
  obtain ⟨h3, hf, hs⟩ := hp
  have hlt : a < l.length := nx_in h3
  have hk3 : kdF (l.getD a zeroIL) = 3 := by rw [← nx_kd hlt]; exact h3
  have hop := (op_of_kd hk3).2.2.1 rfl
  obtain ⟨first, hfst, hd1⟩ : ∃ first : Bool, (if first = true then (5 : Int) else 4) = blkC f ∧ dfaF (l.take (a + 1)) = some (.blk first) := by
    rcases hs with ⟨hb, hd⟩ | ⟨hb, hd⟩
    · exact ⟨true, by unfold blkC; rw [hb]; rfl, by rw [dfa_next hlt hd, s_lab hk3]⟩
    · refine ⟨false, ?_, by rw [dfa_next hlt hd, s_en hk3]⟩
      unfold blkC; rw [if_neg (fun e => hb (List.length_eq_zero_iff.1 e))]; rfl
  have hf1 : funsK l (a + 1) = fs ++ [{ f with blocks := f.blocks ++ [⟨(l.getD a zeroIL).res, (a : Int), 0⟩] }] := by
    rw [funsK, hf]
    unfold addF
    rw [if_neg (by omega), if_neg (by omega), if_neg (by omega), if_pos hop, onLast_snoc]
  have hc : blkC f = 5 ∨ blkC f = 4 := by unfold blkC; split; (exact .inl rfl); (exact .inr rfl)
  have hA : blkA l a f ≤ l.length := run_le (by omega)
  have hd2 := run_dfa (l := l) (kd := blkC f) (S1 := .blk first) (by omega) (fun i hi => s_blk hfst hi) l.length (a + 1) (by omega) (by omega) hd1
  have hf2 : funsK l (blkA l a f) = funsK l (a + 1) := funs_run hkn (by omega) l.length (a + 1) (by omega) (by omega)
  replace hd2 : dfaF (l.take (blkA l a f)) = some (.blk first) ∧ nxF l (blkA l a f) ≠ blkC f := hd2
  unfold blkZ
  generalize blkA l a f = b at *
  have hrz := run_le (kd := 0) hA
  obtain ⟨S, hdS, hS⟩ := run_pl (fun i hi => s_blk_pl (f := first) hi) hA hd2.1
  have hnz := run_end (l := l) (kd := 0) (by decide) l.length b (by omega) hA
  have hf3 : funsK l (b + runN l 0 b) = funsK l b := funs_run hkn (by omega) l.length b (by omega) hA
  have hS2 : (S = .pl ∨ S = .blk first) ∧ (S = .blk first → nxF l (b + runN l 0 b) ≠ blkC f) := by
    rcases hS with rfl | ⟨rfl, h0⟩
    · exact ⟨.inl rfl, fun e => by cases e⟩
    · exact ⟨.inr rfl, fun _ => by rw [h0]; exact hd2.2⟩
  rw [hf2, hf1] at hf3
  clear hS hd1 hd2 hf1 hf2
  generalize b + runN l 0 b = z at *
  have hop2 : ∀ k, opA l k = (l.getD k zeroIL).op := fun k => rfl
  refine ⟨hrz, hA, hlt, fun h6 => ?_, fun h7 => ?_, fun h6 h7 => ?_⟩
  · have hz : z < l.length := nx_in h6
    have hkz : kdF (l.getD z zeroIL) = 6 := by rw [← nx_kd hz]; exact h6
    have hm := (s_mid hfst hS2.1 (by omega) (fun e => by rw [← nx_kd hz]; exact hS2.2 e)).1 hkz
    have hdm : dfaF (l.take (z + 1)) = some (.mg (l.getD z zeroIL).op) := by rw [dfa_next hz hdS, hm]
    have hfm : funsK l (z + 1) = fs ++ [{ f with blocks := f.blocks ++ [⟨(l.getD a zeroIL).res, (a : Int), 0⟩] }] := by
      rw [funsK, hf3, add_plain (hkn _ (getD_memD hz)) (by omega)]
    refine ⟨fun h => ?_, fun h => ?_⟩
    · have hz2 : z + 1 < l.length := nx_in h.1
      have hk7 : kdF (l.getD (z + 1) zeroIL) = 7 := by rw [← nx_kd hz2]; exact h.1
      refine ⟨by omega, ?_, ?_⟩
      · rw [show z + 2 = z + 1 + 1 by omega, dfa_next hz2 hdm]
        exact (s_mg (i := l.getD (z + 1) zeroIL)).1 ⟨hk7, h.2⟩
      · rw [show z + 2 = z + 1 + 1 by omega, funsK, hfm, add_end hk7]
    · refine ⟨by omega, _, hdm, fun hz2 => ?_, fun _ => rfl⟩
      refine (s_mg (i := l.getD (z + 1) zeroIL)).2 fun e => h ⟨?_, e.2⟩
      rw [nx_kd hz2]; exact e.1
  · have hz : z < l.length := nx_in h7
    have hkz : kdF (l.getD z zeroIL) = 7 := by rw [← nx_kd hz]; exact h7
    have hm := (s_mid hfst hS2.1 (by omega) (fun e => by rw [← nx_kd hz]; exact hS2.2 e)).2.1 hkz
    refine ⟨by omega, by rw [dfa_next hz hdS, hm], ?_⟩
    rw [funsK, hf3, add_end hkz]
  · refine ⟨hrz, S, hdS, fun hz => ?_, fun _ => ?_⟩
    · have hn6 : kdF (l.getD z zeroIL) ≠ 6 := by rw [← nx_kd hz]; exact h6
      have hn7 : kdF (l.getD z zeroIL) ≠ 7 := by rw [← nx_kd hz]; exact h7
      exact (s_mid hfst hS2.1 (by rw [← nx_kd hz]; exact hnz) (fun e => by rw [← nx_kd hz]; exact hS2.2 e)).2.2 hn6 hn7
    · rcases hS2.1 with rfl | rfl <;> rfl
def FunI (l : List InstL) (a : Nat) (fs : List FunL) : Prop := a ≤ l.length ∧ funsK l a = fs ∧ ∃ S, dfaF (l.take a) = some S ∧ S.fin = true ∧ (a < l.length → (nxF l a ≠ 1 → stepO S (l.getD a zeroIL) = none) ∧ (nxF l a = 1 → stepO S (l.getD a zeroIL) = some .fn))
theorem FunI.good {l : List InstL} {fs : List FunL} (h : FunI l l.length fs) : orderF l = (0, 0) ∧ funsK l l.length = fs := by
  obtain ⟨_, h2, S, h3, h4, _⟩ := h
  exact ⟨order_good h3 h4, h2⟩
theorem FunI.stuck {l : List InstL} {a : Nat} {fs : List FunL} (h : FunI l a fs) (hlt : a < l.length) (hn : nxF l a ≠ 1) : Stuck l a := by
  obtain ⟨_, h2, S, h3, h4, h5⟩ := h
  exact ⟨by omega, S, h3, fun h => (h5 h).1 hn, fun h => by omega⟩
theorem FunI.top {l : List InstL} (hkn : ∀ i ∈ l, i.Known) (h : topA l 2 ≠ topA l 1) : FunI l (topA l 8) [] := by
  obtain ⟨q, q1, hd, hs⟩ := top_some hkn h
  refine ⟨topA_le 8, ?_, .top q, hd, decide_eq_true q1, fun hlt => ?_⟩
  · refine funs_top hkn (topA_le 8) fun j hj => ?_
    have key : ∀ p, j < topA l p → kdF (l.getD j zeroIL) = 9 := by
      intro p
      induction p with
      | zero => intro h; exact absurd h (Nat.not_lt_zero _)
      | succ p ih =>
        intro h
        by_cases e : j < topA l p
        · exact ih e
        · have := topN_all (l := l) (p := p) (by omega) h
          rw [atP_iff] at this; exact this.1
    exact key 8 hj
  · rw [nx_kd hlt]; exact hs hlt
theorem FunI.par {l : List InstL} {a : Nat} {fs : List FunL} (h : FunI l a fs) (h1 : nxF l a = 1) : a < l.length ∧ a + 1 + runN l 2 (a + 1) ≤ l.length ∧ funsK l (a + 1 + runN l 2 (a + 1)) = fs ++ [⟨(l.getD a zeroIL).res, (a : Int), places (a + 1) (runN l 2 (a + 1)), [], 0⟩] ∧ dfaF (l.take (a + 1 + runN l 2 (a + 1))) = some .fn ∧ nxF l (a + 1 + runN l 2 (a + 1)) ≠ 2 := by
  obtain ⟨_, h2, S, h3, h4, h5⟩ := h
  have hlt : a < l.length := nx_in h1
  have hd : dfaF (l.take (a + 1)) = some .fn := by rw [dfa_next hlt h3]; exact (h5 hlt).2 h1
  have hk1 : kdF (l.getD a zeroIL) = 1 := by rw [← nx_kd hlt]; exact h1
  have hop := (op_of_kd hk1).1 rfl
  have hf : funsK l (a + 1) = fs ++ [⟨(l.getD a zeroIL).res, (a : Int), [], [], 0⟩] := by
    rw [funsK, h2]; unfold addF; rw [if_pos hop]
  have hr := run_dfa (l := l) (kd := 2) (by decide) (fun i hi => s_par hi) l.length (a + 1) (by omega) (by omega) hd
  refine ⟨hlt, run_le (by omega), ?_, hr.1, hr.2⟩
  have := funs_par (l := l) (fs := fs) (runN l 2 (a + 1)) (a + 1) (run_le (by omega)) (Nat.le_refl _) hf
  rw [this]; rfl
def BlkI (l : List InstL) (a : Nat) (fs : List FunL) (f : FunL) : Prop := a ≤ l.length ∧ funsK l a = fs ++ [f] ∧ f.fin = 0 ∧ ((f.blocks = [] ∧ dfaF (l.take a) = some .fn ∧ nxF l a ≠ 2) ∨ (f.blocks ≠ [] ∧ dfaF (l.take a) = some .en))
theorem BlkI.pre {l : List InstL} {a : Nat} {fs : List FunL} {f : FunL} (h : BlkI l a fs f) (h3 : nxF l a = 3) : BlkPre l a fs f := by
  obtain ⟨h1, h2, _, h4⟩ := h
  exact ⟨h3, h2, h4.imp (fun e => ⟨e.1, e.2.1⟩) id⟩
theorem Done.blk {l : List InstL} {a e : Nat} {fs : List FunL} {f : FunL} (h : Done l a e fs f) (h0 : f.fin = 0) : BlkI l e fs { f with blocks := f.blocks ++ [⟨(l.getD a zeroIL).res, (a : Int), (e : Int)⟩] } :=
  ⟨h.1, h.2.2, h0, .inr ⟨by simp, h.2.1⟩⟩
theorem BlkI.stuck {l : List InstL} {a : Nat} {fs : List FunL} {f : FunL} (h : BlkI l a fs f) (h3 : nxF l a ≠ 3) (h8 : f.blocks = [] ∨ nxF l a ≠ 8) : Stuck l a := by
  obtain ⟨h1, h2, _, h4⟩ := h
  rcases h4 with ⟨hb, hd, hn⟩ | ⟨hb, hd⟩
  · exact ⟨h1, _, hd, fun hlt => s_fn_no (by rw [← nx_kd hlt]; exact hn) (by rw [← nx_kd hlt]; exact h3), fun _ => rfl⟩
  · have h8 := h8.resolve_left hb
    exact ⟨h1, _, hd, fun hlt => s_en_no (by rw [← nx_kd hlt]; exact h3) (by rw [← nx_kd hlt]; exact h8), fun _ => rfl⟩
theorem BlkI.fin {l : List InstL} {a : Nat} {fs : List FunL} {f : FunL} (h : BlkI l a fs f) (hb : f.blocks ≠ []) (h8 : nxF l a = 8) : FunI l (a + 1) (fs ++ [{ f with fin := (a : Int) }]) := by
  obtain ⟨h1, h2, _, h4⟩ := h
  have hlt : a < l.length := nx_in h8
  have hk8 : kdF (l.getD a zeroIL) = 8 := by rw [← nx_kd hlt]; exact h8
  have hop := (op_of_kd hk8).2.2.2.1 rfl
  rcases h4 with ⟨hb2, _⟩ | ⟨_, hd⟩
  · exact absurd hb2 hb
  · refine ⟨by omega, ?_, .zz, by rw [dfa_next hlt hd, s_end hk8], rfl, fun hlt2 => ⟨fun h => ?_, fun h => ?_⟩⟩
    · rw [funsK, h2]; unfold addF
      rw [if_neg (by omega), if_neg (by omega), if_pos hop, onLast_snoc]
    · rw [nx_kd hlt2] at h; unfold stepO; dsimp only; rw [if_neg h]
    · rw [nx_kd hlt2] at h; unfold stepO; dsimp only; rw [if_pos h]
abbrev bkC (b : BlkL) : List Value := [.int .u32 b.label, .int .i64 b.beg, .int .i64 b.to]
theorem bkC_len (b : BlkL) : (bkC b).length = 3 := rfl
abbrev FunR (Tf : TypeId) (bf : Nat) (f : FunL) (po : Option Addr) (pc : Nat) (bo : Option Addr) (bc : Nat) : Res := Res.row bf Tf [.int .u32 f.id, .int .i64 f.at_, .slice po f.params.length pc, .slice bo f.blocks.length bc, .int .i64 f.fin]
theorem blkA_first {l : List InstL} {a : Nat} {f : FunL} (h : f.blocks.length = 0) : a + 1 + runN l 5 (a + 1) = blkA l a f := by unfold blkA blkC; rw [if_pos h]
theorem blkA_next {l : List InstL} {a : Nat} {f : FunL} (h : ¬ f.blocks.length = 0) : a + 1 + runN l 4 (a + 1) = blkA l a f := by unfold blkA blkC; rw [if_neg h]
theorem not_f {b : Bool} (h : (!b) = false) : b = true := by cases b; (cases h); rfl
theorem not_t {b : Bool} (h : (!b) = true) : b = false := by cases b; rfl; (cases h)
theorem blkZ_gt (l : List InstL) (a : Nat) (f : FunL) : a < blkZ l a f := by unfold blkZ blkA; omega
theorem nx_neg {l : List InstL} {k : Nat} (h : nxF l k < 0) : ¬ k < l.length := fun e => by
  rw [nx_kd e] at h; have := kd_range (l.getD k zeroIL); omega
theorem nx_pos {l : List InstL} {k : Nat} (h : ¬ nxF l k < 0) : k < l.length := Classical.byContradiction fun e => h (by unfold nxF; rw [if_neg e]; decide)
structure FunP where
  fu : FunL
  po : Option Addr
  pc : Nat
  bo : Option Addr
  bc : Nat
abbrev funC (x : FunP) : List Value := [.int .u32 x.fu.id, .int .i64 x.fu.at_, .slice x.po x.fu.params.length x.pc, .slice x.bo x.fu.blocks.length x.bc, .int .i64 x.fu.fin]
theorem funC_len (x : FunP) : (funC x).length = 5 := rfl
def zeroFun : FunP := ⟨⟨0, 0, [], [], 0⟩, none, 0, none, 0⟩
abbrev Res.ofun (Ti Tb : TypeId) (x : FunP) : Res := Res.star [Res.sl x.po x.fu.params.length x.pc Ti 1 (x.fu.params.flatMap intC), Res.sl x.bo x.fu.blocks.length x.bc Tb 3 (x.fu.blocks.flatMap bkC)]
abbrev Res.ofuns (Tf Ti Tb : TypeId) (ao : Option Addr) (cap : Nat) (xs : List FunP) : Res := Res.star (Res.sl ao xs.length cap Tf 5 (xs.flatMap funC) :: xs.map (Res.ofun Ti Tb))
theorem shape_len {bd : Int} {l : List InstL} (h : (shapeF bd l).1 = 0) : l.length ≤ 1048576 := by
  have h1 := encode_len (gn := 0) h
  rw [writeW_len] at h1
  have h2 : (((rawsF bd l).map lenL).map (· + 1)).length ≤ (((rawsF bd l).map lenL).map (· + 1)).sum := by
    generalize (rawsF bd l).map lenL = ks
    induction ks with
    | nil => exact Nat.le_refl _
    | cons k ks ih => simp only [List.map_cons, List.length_cons, List.sum_cons]; omega
  have h3 : (((rawsF bd l).map lenL).map (· + 1)).length = l.length := by simp [rawsF]
  omega
theorem check_stuck {bd : Int} {l : List InstL} {e : Nat} (h : (shapeF bd l).1 = 0) (hs : Stuck l e) : checkF bd l = (if e < l.length then 50 else 51, (e : Int)) := by
  rw [check_order h, hs.order]
end Go.SK
namespace Go.SK
theorem scan_some {l : List InstL} : ∀ {n k : Nat} {S : LS}, k + n = l.length → dfaF (l.take k) = some S → (scanF l n k S).1 ≠ 50 → ∃ S', dfaF (l.take l.length) = some S'
  | 0, k, S, hk, hd, h => ⟨S, by rw [show l.length = k by omega]; exact hd⟩
  | n + 1, k, S, hk, hd, h => by
    rw [scanF] at h
    cases hs : stepO S (l.getD k zeroIL) with
    | none => rw [hs] at h; exact absurd rfl h
    | some S2 =>
      rw [hs] at h
      exact scan_some (n := n) (k := k + 1) (by omega) (by rw [dfa_next (by omega) hd]; exact hs) h
theorem order_some {l : List InstL} (h : (orderF l).1 ≠ 50) : ∃ S', dfaF (l.take l.length) = some S' :=
  scan_some (n := l.length) (k := 0) (by omega) (by rw [List.take_zero]; rfl) h
theorem Small.take {l : List InstP} (h : Small l) (n : Nat) : Small (l.take n) :=
  ⟨by rw [List.length_take]; have := h.len; omega, fun i hi => h.op i (List.mem_of_mem_take hi), fun i hi => h.op2 i (List.mem_of_mem_take hi), fun i hi => h.sum i (List.mem_of_mem_take hi), fun i hi => h.txt i (List.mem_of_mem_take hi)⟩
end Go.SK
namespace Go.SK
open Go.RowKit Go.ChangeShapes Go.WideShapes Go.ChangeAt
theorem check_good {bd : Int} {l : List InstL} (h : (checkF bd l).1 = 0) : (shapeF bd l).1 = 0 ∧ orderF l = checkF bd l := by
  have hs : (shapeF bd l).1 = 0 := Classical.byContradiction fun e => by rw [check_shape e] at h; exact e h
  exact ⟨hs, (check_order hs).symm⟩
theorem scan_zero {l : List InstL} : ∀ (n k : Nat) (S : LS), (scanF l n k S).1 = 0 → scanF l n k S = (0, 0)
  | 0, k, S, h => by
    rw [scanF] at h ⊢
    split at h
    · rename_i h1; rw [if_pos h1]
    · cases h
  | n + 1, k, S, h => by
    rw [scanF] at h ⊢
    cases hs : stepO S (l.getD k zeroIL) with
    | none => rw [hs] at h; cases h
    | some S2 => rw [hs] at h; exact scan_zero n (k + 1) S2 h
theorem order_zero {l : List InstL} (h : (orderF l).1 = 0) : orderF l = (0, 0) := scan_zero _ _ _ h
section
variable {P : Program} {ty : TypeId} {ρ : Operand → Value} {w : World} {C : Value → World → Prop} {T T2 : TypeId} {x y : Operand} {sz bytes : Nat} {zs : List Value} {e : TypeId}
theorem equal_nn (hT : TyF P T (.pointer e) sz bytes zs) : (Op.equal T (.pointer none) (.pointer none)).run P w = .ok true w := by
  show (Op.equalIn (9999 + 1) T (.pointer none) (.pointer none)).run P w = _
  rw [Op.equalIn]
  simp [Sem.run_bind, hT.run_und, Result.andThen]
theorem Op1.eqlNN (hT : TyF P T (.pointer e) sz bytes zs) (hx : ρ x = .pointer none) (hy : ρ y = .pointer none) (h : C (.bool true) w) : Op1 P (.binOp .eql T x y T2) ty ρ w C := by
  refine Op1.of (v := .bool true) (w' := w) ?_ h
  simp only [execOp, hx, hy, eqGuard]
  simp [binOp, equal_nn hT, Result.andThen]
end
end Go.SK
namespace Go.SK
theorem onLast_mem {α : Type} {g : α → α} {x : α} : ∀ {l : List α}, x ∈ onLast g l → x ∈ l ∨ ∃ y ∈ l, x = g y
  | [], h => .inl h
  | [y], h => by
    cases h with
    | head => exact .inr ⟨y, .head _, rfl⟩
    | tail _ h => cases h
  | y :: z :: r, h => by
    rw [onLast] at h
    cases h with
    | head => exact .inl (.head _)
    | tail _ h =>
      rcases onLast_mem h with h | ⟨u, hu, he⟩
      · exact .inl (.tail _ h)
      · exact .inr ⟨u, .tail _ hu, he⟩
theorem onLast_len {α : Type} (g : α → α) : ∀ l : List α, (onLast g l).length = l.length
  | [] => rfl
  | [y] => rfl
  | y :: z :: r => by rw [onLast, List.length_cons, onLast_len g (z :: r)]; rfl
def SizF (fs : List FunL) (k : Nat) : Prop := fs.length ≤ k ∧ ∀ f ∈ fs, f.blocks.length ≤ k ∧ f.params.length ≤ k
theorem siz_last {fs : List FunL} {k : Nat} {g : FunL → FunL} (h : SizF fs k) (hg : ∀ f, (g f).blocks.length ≤ f.blocks.length + 1 ∧ (g f).params.length ≤ f.params.length + 1) : SizF (onLast g fs) (k + 1) := by
  refine ⟨by rw [onLast_len]; have := h.1; omega, fun f hf => ?_⟩
  rcases onLast_mem hf with hf | ⟨y, hy, rfl⟩
  · have := h.2 f hf; omega
  · have := h.2 y hy; have := hg y; omega
theorem siz_add {fs : List FunL} {k : Nat} (i : InstL) (h : SizF fs k) : SizF (addF fs k i) (k + 1) := by
  unfold addF
  split
  · refine ⟨by rw [List.length_append]; have := h.1; simp only [List.length_cons, List.length_nil]; omega, fun f hf => ?_⟩
    rcases List.mem_append.1 hf with hf | hf
    · have := h.2 f hf; omega
    · cases hf with
      | head => exact ⟨Nat.zero_le _, Nat.zero_le _⟩
      | tail _ hf => cases hf
  · split
    · exact siz_last h fun f => ⟨by (dsimp only); omega, by simp⟩
    · split
      · exact siz_last h fun f => ⟨by simp, by simp⟩
      · split
        · exact siz_last h fun f => ⟨by simp, by simp⟩
        · split
          · exact siz_last h fun f => ⟨by simp only [onLast_len]; omega, by (dsimp only); omega⟩
          · exact ⟨by have := h.1; omega, fun f hf => by have := h.2 f hf; omega⟩
theorem siz_funs (l : List InstL) : ∀ k, SizF (funsK l k) k
  | 0 => ⟨Nat.le_refl _, fun f hf => by cases hf⟩
  | k + 1 => siz_add _ (siz_funs l k)
theorem fu_getD (xs : List FunP) (n : Nat) (h : n < xs.length) : (xs.map FunP.fu).getD n zeroFun.fu = (xs.getD n zeroFun).fu := map_getD2 FunP.fu zeroFun h
theorem siz_xs {l : List InstL} {k : Nat} {xs : List FunP} (h : xs.map FunP.fu = funsK l k) : xs.length ≤ k ∧ ∀ n, n < xs.length → (xs.getD n zeroFun).fu.blocks.length ≤ k ∧ (xs.getD n zeroFun).fu.params.length ≤ k := by
  have hs := siz_funs l k
  rw [← h] at hs
  refine ⟨by have := hs.1; rwa [List.length_map] at this, fun n hn => hs.2 _ (List.mem_map_of_mem (getD_memD hn))⟩
section
variable {Tf Ti Tb : TypeId} {ao : Option Addr} {cap : Nat} {xs : List FunP} {w : World}
theorem Res.ofuns_rows (h : (Res.ofuns Tf Ti Tb ao cap xs).holds w) : (Res.rs ao xs.length 5 (xs.flatMap funC)).holds w := Res.rs_of_sl (h.1 _ (.head _))
theorem Res.ofuns_fun (h : (Res.ofuns Tf Ti Tb ao cap xs).holds w) {n : Nat} (hn : n < xs.length) : (Res.ofun Ti Tb (xs.getD n zeroFun)).holds w := h.1 _ (.tail _ (List.mem_map_of_mem (getD_memD hn)))
theorem Res.ofuns_blocks (h : (Res.ofuns Tf Ti Tb ao cap xs).holds w) {n : Nat} (hn : n < xs.length) : (Res.rs (xs.getD n zeroFun).bo (xs.getD n zeroFun).fu.blocks.length 3 ((xs.getD n zeroFun).fu.blocks.flatMap bkC)).holds w := Res.rs_of_sl ((Res.ofuns_fun h hn).1 _ (.tail _ (.head _)))
theorem Res.ofuns_params (h : (Res.ofuns Tf Ti Tb ao cap xs).holds w) {n : Nat} (hn : n < xs.length) : (Res.rs (xs.getD n zeroFun).po (xs.getD n zeroFun).fu.params.length 1 ((xs.getD n zeroFun).fu.params.flatMap intC)).holds w := Res.rs_of_sl ((Res.ofuns_fun h hn).1 _ (.head _))
end
def zeroB : BlkL := ⟨0, 0, 0⟩
end Go.SK
namespace Go.SK
open Go.RowKit Go.ChangeShapes Go.WideShapes Go.ChangeAt
def LastOk (fs : List FunL) (b : Bool) : Prop := ∃ ys f, fs = ys ++ [f] ∧ (b = true → f.blocks ≠ [])
theorem LastOk.weak {fs : List FunL} {b : Bool} (h : LastOk fs b) : LastOk fs false := by obtain ⟨ys, f, h1, _⟩ := h; exact ⟨ys, f, h1, fun e => by cases e⟩
theorem LastOk.on {fs : List FunL} {b c : Bool} {g : FunL → FunL} (h : LastOk fs b) (hg : ∀ f : FunL, (b = true → f.blocks ≠ []) → c = true → (g f).blocks ≠ []) : LastOk (onLast g fs) c := by
  obtain ⟨ys, f, rfl, h2⟩ := h
  rw [onLast_snoc]
  exact ⟨ys, g f, rfl, hg f h2⟩
def InvF : LS → List FunL → Prop
  | .top _, fs => fs = []
  | .fn, fs => LastOk fs false
  | .zz, fs => LastOk fs false
  | .blk _, fs => LastOk fs true
  | .pl, fs => LastOk fs true
  | .mg _, fs => LastOk fs true
  | .en, fs => LastOk fs true
section
variable {i : InstL} {fs : List FunL} {k : Nat}
theorem addF_1 (h : i.op = 54) : addF fs k i = fs ++ [⟨i.res, (k : Int), [], [], 0⟩] := by unfold addF; rw [if_pos h]
theorem addF_2 (h : i.op = 55) : addF fs k i = onLast (fun f => { f with params := f.params ++ [(k : Int)] }) fs := by unfold addF; rw [if_neg (by omega), if_pos h]
theorem addF_8 (h : i.op = 56) : addF fs k i = onLast (fun f => { f with fin := (k : Int) }) fs := by unfold addF; rw [if_neg (by omega), if_neg (by omega), if_pos h]
theorem addF_3 (h : i.op = 248) : addF fs k i = onLast (fun f => { f with blocks := f.blocks ++ [⟨i.res, (k : Int), 0⟩] }) fs := by unfold addF; rw [if_neg (by omega), if_neg (by omega), if_neg (by omega), if_pos h]
theorem addF_7 (h : endsB i.op = true) : addF fs k i = onLast (fun f => { f with blocks := onLast (fun b => { b with to := ((k + 1 : Nat) : Int) }) f.blocks }) fs := by
  have := endsB_iff.1 h
  unfold addF; rw [if_neg (by omega), if_neg (by omega), if_neg (by omega), if_neg (by omega), if_pos h]
theorem addF_0 (h1 : i.op ≠ 54) (h2 : i.op ≠ 55) (h3 : i.op ≠ 56) (h4 : i.op ≠ 248) (h5 : ¬ endsB i.op = true) : addF fs k i = fs := by
  unfold addF; rw [if_neg h1, if_neg h2, if_neg h3, if_neg h4, if_neg h5]
theorem inv_fn {b : Bool} : LastOk (fs ++ [⟨i.res, (k : Int), [], [], 0⟩]) false := ⟨fs, _, rfl, fun e => by cases e⟩
theorem onLast_ne {α : Type} {g : α → α} {l : List α} (h : l ≠ []) : onLast g l ≠ [] := fun e => by
  have := onLast_len g l; rw [e] at this; exact h (List.length_eq_zero_iff.1 this.symm)
theorem inv_step {S S' : LS} (hi : i.Known) (hs : stepO S i = some S') (hI : InvF S fs) : InvF S' (addF fs k i) := by
  have h2 : kdF i = 2 → LastOk fs false → LastOk (addF fs k i) false := fun h hL => by
    rw [addF_2 ((op_of_kd h).2.1 rfl)]; exact hL.on fun f _ e => by cases e
  have h3 : kdF i = 3 → LastOk fs false → LastOk (addF fs k i) true := fun h hL => by
    rw [addF_3 ((op_of_kd h).2.2.1 rfl)]; exact hL.on fun f _ _ => by simp
  have h7 : kdF i = 7 → LastOk fs true → LastOk (addF fs k i) true := fun h hL => by
    rw [addF_7 (endsB_iff.2 ((op_of_kd h).2.2.2.2 rfl))]; exact hL.on fun f hf _ => onLast_ne (hf rfl)
  have h8 : kdF i = 8 → LastOk fs false → LastOk (addF fs k i) false := fun h hL => by
    rw [addF_8 ((op_of_kd h).2.2.2.1 rfl)]; exact hL.on fun f _ e => by cases e
  have h1 : i.op = 54 → LastOk (addF fs k i) false := fun h => by rw [addF_1 h]; exact inv_fn (b := true)
  have h0 : (kdF i = 9 ∨ kdF i = 4 ∨ kdF i = 5 ∨ kdF i = 6 ∨ kdF i = 0) → addF fs k i = fs := fun h => add_plain hi h
  cases S with
  | top p =>
    unfold stepO at hs; dsimp only at hs
    split at hs
    · split at hs
      · rename_i h; cases hs; exact h1 h.2
      · cases hs
    · rename_i h8
      have h9 : addF fs k i = fs := h0 (.inl (kd_above h8))
      rw [h9]
      split at hs
      · cases hs
      · split at hs
        · split at hs
          · cases hs; exact hI
          · cases hs
        · split at hs
          · cases hs
          · cases hs; exact hI
  | fn =>
    unfold stepO at hs; dsimp only at hs
    split at hs
    · rename_i h; cases hs; exact h2 h hI
    · split at hs
      · rename_i h; cases hs; exact h3 h hI
      · cases hs
  | blk f =>
    have hc : ∃ c : Int, (if f = true then (5 : Int) else 4) = c ∧ (c = 5 ∨ c = 4) := by cases f; (exact ⟨4, rfl, .inr rfl⟩); (exact ⟨5, rfl, .inl rfl⟩)
    obtain ⟨c, hc1, hc2⟩ := hc
    unfold stepO at hs; dsimp only at hs
    rw [hc1] at hs
    split at hs
    · cases hs; rw [h0 (by omega)]; exact hI
    · split at hs
      · cases hs; rw [h0 (by omega)]; exact hI
      · split at hs
        · cases hs; rw [h0 (by omega)]; exact hI
        · split at hs
          · rename_i h; cases hs; exact h7 h hI
          · cases hs
  | pl =>
    unfold stepO at hs; dsimp only at hs
    split at hs
    · cases hs; rw [h0 (by omega)]; exact hI
    · split at hs
      · cases hs; rw [h0 (by omega)]; exact hI
      · split at hs
        · rename_i h; cases hs; exact h7 h hI
        · cases hs
  | mg o =>
    unfold stepO at hs; dsimp only at hs
    split at hs
    · rename_i h; cases hs; exact h7 h.1 hI
    · cases hs
  | en =>
    unfold stepO at hs; dsimp only at hs
    split at hs
    · rename_i h; cases hs; exact h3 h hI.weak
    · split at hs
      · rename_i h; cases hs; exact h8 h hI.weak
      · cases hs
  | zz =>
    unfold stepO at hs; dsimp only at hs
    split at hs
    · rename_i h; cases hs; exact h1 ((op_of_kd h).1 rfl)
    · cases hs
theorem inv_need {S S' : LS} (hi : i.Known) (hs : stepO S i = some S') (hI : InvF S fs) : (i.op = 55 ∨ i.op = 56 ∨ i.op = 248 → LastOk fs false) ∧ (endsB i.op = true → LastOk fs true) := by
  have hin : (i.op = 55 ∨ i.op = 56 ∨ i.op = 248) ∨ endsB i.op = true → ptF i = 8 := fun h => by
    refine pt_in hi ?_
    unfold opsIn
    refine decide_eq_true ?_
    rcases h with h | h
    · omega
    · have := endsB_iff.1 h; omega
  have hcs := kd_cases i
  have hends : endsB i.op = true → kdF i = 7 := fun h => by have := endsB_iff.1 h; have := hin (.inr h); omega
  have hoth : i.op = 55 ∨ i.op = 56 ∨ i.op = 248 → kdF i = 2 ∨ kdF i = 8 ∨ kdF i = 3 := fun h => by have := hin (.inl h); omega
  cases S with
  | top p =>
    have no : ptF i = 8 → i.op = 54 := fun h => by
      unfold stepO at hs; dsimp only at hs
      rw [if_pos h] at hs
      split at hs
      · rename_i h; exact h.2
      · cases hs
    exact ⟨fun h => by have := no (hin (.inl h)); omega, fun h => by have := no (hin (.inr h)); have := endsB_iff.1 h; omega⟩
  | fn =>
    refine ⟨fun _ => hI, fun h => ?_⟩
    have := hends h
    unfold stepO at hs; dsimp only at hs
    rw [if_neg (by omega), if_neg (by omega)] at hs; cases hs
  | zz =>
    refine ⟨fun _ => hI, fun h => ?_⟩
    have := hends h
    unfold stepO at hs; dsimp only at hs
    rw [if_neg (by omega)] at hs; cases hs
  | blk f => exact ⟨fun _ => LastOk.weak hI, fun _ => hI⟩
  | pl => exact ⟨fun _ => LastOk.weak hI, fun _ => hI⟩
  | mg o => exact ⟨fun _ => LastOk.weak hI, fun _ => hI⟩
  | en => exact ⟨fun _ => LastOk.weak hI, fun _ => hI⟩
end
theorem inv_funs {l : List InstL} (hkn : ∀ i ∈ l, i.Known) (ho : orderF l = (0, 0)) : ∀ k, k ≤ l.length → ∃ S, dfaF (l.take k) = some S ∧ InvF S (funsK l k)
  | 0, _ => ⟨.top 0, by rw [List.take_zero]; rfl, rfl⟩
  | k + 1, hk => by
    obtain ⟨S, hd, hI⟩ := inv_funs hkn ho k (by omega)
    obtain ⟨SE, hE⟩ := order_some (l := l) (by rw [ho]; decide)
    obtain ⟨S2, hd2⟩ := dfa_prefix (Nat.le_refl _) hE hk
    have hs : stepO S (l.getD k zeroIL) = some S2 := by rw [← dfa_next (by omega) hd]; exact hd2
    exact ⟨S2, hd2, inv_step (hkn _ (getD_memD (by omega))) hs hI⟩
theorem funs_need {l : List InstL} (hkn : ∀ i ∈ l, i.Known) (ho : orderF l = (0, 0)) {k : Nat} (hk : k < l.length) : (opA l k = 55 ∨ opA l k = 56 ∨ opA l k = 248 → LastOk (funsK l k) false) ∧ (endsB (opA l k) = true → LastOk (funsK l k) true) := by
  obtain ⟨S, hd, hI⟩ := inv_funs hkn ho k (by omega)
  obtain ⟨SE, hE⟩ := order_some (l := l) (by rw [ho]; decide)
  obtain ⟨S2, hd2⟩ := dfa_prefix (Nat.le_refl _) hE (show k + 1 ≤ l.length by omega)
  have hs : stepO S (l.getD k zeroIL) = some S2 := by rw [← dfa_next hk hd]; exact hd2
  exact inv_need (hkn _ (getD_memD hk)) hs hI
theorem xs_last {xs : List FunP} {b : Bool} (h : LastOk (xs.map FunP.fu) b) : ∃ ys x, xs = ys ++ [x] ∧ (b = true → x.fu.blocks ≠ []) := by
  obtain ⟨fs, f, h1, h2⟩ := h
  rcases List.eq_nil_or_concat xs with rfl | ⟨ys, x, rfl⟩
  · have := congrArg List.length h1; simp at this
  · refine ⟨ys, x, List.concat_eq_append, ?_⟩
    rw [List.concat_eq_append, List.map_append] at h1
    have := (List.append_inj' h1 rfl).2
    simp only [List.map_cons, List.map_nil, List.cons.injEq, and_true] at this
    rw [this]; exact h2
theorem bs_last {bs : List BlkL} (h : bs ≠ []) : ∃ cs b, bs = cs ++ [b] := by
  rcases List.eq_nil_or_concat bs with rfl | ⟨cs, b, rfl⟩
  · exact absurd rfl h
  · exact ⟨cs, b, List.concat_eq_append⟩
theorem flat_last {α : Type} {g : α → List Value} {es : Nat} (hg : ∀ a, (g a).length = es) (ys : List α) (x : α) {i j : Nat} {v : Value} (hi : i = ys.length) (h : (g x)[j]? = some v) : ((ys ++ [x]).flatMap g)[0 + i * es + j]? = some v := by
  subst hi
  rw [List.flatMap_append, List.getElem?_append_right (by rw [flat_len hg]; omega), flat_len hg, show 0 + ys.length * es + j - ys.length * es = j by omega]
  simpa using h
theorem set_last {α : Type} {g : α → List Value} {es : Nat} (hg : ∀ a, (g a).length = es) (ys : List α) (x x2 : α) {i j : Nat} {vs : List Value} (hi : i = ys.length) (h : setSeg (g x) j vs = g x2) : setSeg ((ys ++ [x]).flatMap g) (0 + i * es + j) vs = (ys ++ [x2]).flatMap g := by
  subst hi
  rw [List.flatMap_append, show 0 + ys.length * es + j = (ys.flatMap g).length + j by rw [flat_len hg]; omega, setSeg_app]
  rw [List.flatMap_append]
  simp only [List.flatMap_cons, List.flatMap_nil, List.append_nil]
  rw [h]
section
variable {w0 w : World} {M : Nat → Prop} {L D : List Res} {Ti Tb : TypeId} {ys : List FunP} {x : FunP}
theorem St.starUnsnoc {X : List Res} {r : Res} (h : St w0 M (Res.star (X ++ [r]) :: L) D w) : St w0 M (r :: Res.star X :: L) D w := by
  have h1 : St w0 M (X ++ (r :: L)) D w := by have := h.unpack; rwa [List.append_assoc] at this
  exact (St.pack (L1 := X) h1).perm (List.Perm.swap _ _ _)
theorem St.lastFun (h : St w0 M (Res.star ((ys ++ [x]).map (Res.ofun Ti Tb)) :: L) D w) : St w0 M (Res.sl x.po x.fu.params.length x.pc Ti 1 (x.fu.params.flatMap intC) :: Res.sl x.bo x.fu.blocks.length x.bc Tb 3 (x.fu.blocks.flatMap bkC) :: Res.star (ys.map (Res.ofun Ti Tb)) :: L) D w := by
  rw [List.map_append] at h
  exact (h.starUnsnoc (r := Res.ofun Ti Tb x)).unpack
theorem St.lastFun' (h : St w0 M (Res.sl x.po x.fu.params.length x.pc Ti 1 (x.fu.params.flatMap intC) :: Res.sl x.bo x.fu.blocks.length x.bc Tb 3 (x.fu.blocks.flatMap bkC) :: Res.star (ys.map (Res.ofun Ti Tb)) :: L) D w) : St w0 M (Res.star ((ys ++ [x]).map (Res.ofun Ti Tb)) :: L) D w := by
  rw [List.map_append]
  exact (St.pack (L1 := [_, _]) h).starSnoc
end
theorem siz_x {l : List InstL} {k : Nat} {xs ys : List FunP} {x : FunP} (h : xs.map FunP.fu = funsK l k) (hxy : xs = ys ++ [x]) : x.fu.blocks.length ≤ k ∧ x.fu.params.length ≤ k := by
  have hs := siz_funs l k
  rw [← h, hxy] at hs
  exact hs.2 _ (List.mem_map_of_mem (List.mem_append_right _ (.head _)))
section
variable {l : List InstL} {k : Nat} {xs ys : List FunP} {x x2 : FunP}
theorem fx_0 (hJ : xs.map FunP.fu = funsK l k) (h1 : opA l k ≠ 54) (h2 : opA l k ≠ 55) (h3 : opA l k ≠ 56) (h4 : opA l k ≠ 248) (h5 : ¬ endsB (opA l k) = true) : xs.map FunP.fu = funsK l (k + 1) := by
  rw [funsK, ← hJ, addF_0 h1 h2 h3 h4 h5]
theorem fx_1 (hJ : xs.map FunP.fu = funsK l k) (ho : opA l k = 54) (h2 : x2.fu = ⟨(l.getD k zeroIL).res, (k : Int), [], [], 0⟩) : (xs ++ [x2]).map FunP.fu = funsK l (k + 1) := by
  rw [funsK, ← hJ, addF_1 ho, List.map_append, List.map_cons, List.map_nil, h2]
theorem fx_2 (hJ : xs.map FunP.fu = funsK l k) (hxy : xs = ys ++ [x]) (ho : opA l k = 55) (h2 : x2.fu = { x.fu with params := x.fu.params ++ [(k : Int)] }) : (ys ++ [x2]).map FunP.fu = funsK l (k + 1) := by
  rw [funsK, ← hJ, hxy, addF_2 ho, List.map_append, List.map_append, List.map_cons, List.map_nil, List.map_cons, List.map_nil, onLast_snoc, h2]
theorem fx_8 (hJ : xs.map FunP.fu = funsK l k) (hxy : xs = ys ++ [x]) (ho : opA l k = 56) (h2 : x2.fu = { x.fu with fin := (k : Int) }) : (ys ++ [x2]).map FunP.fu = funsK l (k + 1) := by
  rw [funsK, ← hJ, hxy, addF_8 ho, List.map_append, List.map_append, List.map_cons, List.map_nil, List.map_cons, List.map_nil, onLast_snoc, h2]
theorem fx_3 (hJ : xs.map FunP.fu = funsK l k) (hxy : xs = ys ++ [x]) (ho : opA l k = 248) (h2 : x2.fu = { x.fu with blocks := x.fu.blocks ++ [⟨(l.getD k zeroIL).res, (k : Int), 0⟩] }) : (ys ++ [x2]).map FunP.fu = funsK l (k + 1) := by
  rw [funsK, ← hJ, hxy, addF_3 ho, List.map_append, List.map_append, List.map_cons, List.map_nil, List.map_cons, List.map_nil, onLast_snoc, h2]
theorem fx_7 {cs : List BlkL} {b : BlkL} (hJ : xs.map FunP.fu = funsK l k) (hxy : xs = ys ++ [x]) (hb : x.fu.blocks = cs ++ [b]) (ho : endsB (opA l k) = true) (h2 : x2.fu = { x.fu with blocks := cs ++ [{ b with to := ((k + 1 : Nat) : Int) }] }) : (ys ++ [x2]).map FunP.fu = funsK l (k + 1) := by
  rw [funsK, ← hJ, hxy, addF_7 ho, List.map_append, List.map_append, List.map_cons, List.map_nil, List.map_cons, List.map_nil, onLast_snoc, h2, hb, onLast_snoc]
end
theorem flat_lastX {α : Type} {g : α → List Value} {es : Nat} (hg : ∀ a, (g a).length = es) {xs ys : List α} {x : α} (hxy : xs = ys ++ [x]) {i j : Nat} {v : Value} (hi : i = ys.length) (h : (g x)[j]? = some v) : (xs.flatMap g)[0 + i * es + j]? = some v := by
  subst hxy; exact flat_last hg ys x hi h
theorem set_lastX {α : Type} {g : α → List Value} {es : Nat} (hg : ∀ a, (g a).length = es) {xs ys : List α} {x x2 : α} (hxy : xs = ys ++ [x]) {i j : Nat} {vs : List Value} (hi : i = ys.length) (h : setSeg (g x) j vs = g x2) : setSeg (xs.flatMap g) (0 + i * es + j) vs = (ys ++ [x2]).flatMap g := by
  subst hxy; exact set_last hg ys x x2 hi h
section
variable {w0 w : World} {M : Nat → Prop} {L D : List Res} {Ti Tb : TypeId} {xs ys : List FunP} {f : FunL} {po bo : Option Addr} {pc bc : Nat}
theorem St.lastFunX (hxy : xs = ys ++ [⟨f, po, pc, bo, bc⟩]) (h : St w0 M (Res.star (xs.map (Res.ofun Ti Tb)) :: L) D w) : St w0 M (Res.sl po f.params.length pc Ti 1 (f.params.flatMap intC) :: Res.sl bo f.blocks.length bc Tb 3 (f.blocks.flatMap bkC) :: Res.star (ys.map (Res.ofun Ti Tb)) :: L) D w := by
  subst hxy; exact h.lastFun
end
end Go.SK
namespace Go.SK
theorem Stuck.not {l : List InstL} {k : Nat} (h : Stuck l k) (ho : orderF l = (0, 0)) : False := by
  have := h.order
  rw [ho] at this
  injection this with h1 _
  split at h1 <;> cases h1
end Go.SK
namespace Go.SK
open Go.RowKit Go.ChangeShapes Go.WideShapes Go.ChangeAt
def cutF (bd : Int) (l : List InstL) : List FunL := if (checkF bd l).1 = 0 then funsK l l.length else []
theorem siz_cut {bd : Int} {l : List InstP} {xs : List FunP} (h : xs.map FunP.fu = cutF bd (l.map InstP.L)) : xs.length ≤ l.length ∧ ∀ n, n < xs.length → (xs.getD n zeroFun).fu.blocks.length ≤ l.length ∧ (xs.getD n zeroFun).fu.params.length ≤ l.length := by
  unfold cutF at h
  split at h
  · rw [List.length_map] at h
    exact siz_xs h
  · have h0 : xs = [] := List.map_eq_nil_iff.1 h
    subst h0
    exact ⟨Nat.zero_le _, fun n hn => absurd hn (Nat.not_lt_zero _)⟩
theorem same_fu {xs ys : List FunP} (h : xs.map FunP.fu = ys.map FunP.fu) : xs.length = ys.length ∧ ∀ n, n < xs.length → (xs.getD n zeroFun).fu = (ys.getD n zeroFun).fu := by
  have hl : xs.length = ys.length := by have := congrArg List.length h; simpa using this
  refine ⟨hl, fun n hn => ?_⟩
  rw [← fu_getD _ _ hn, h, fu_getD _ _ (by omega)]
section
variable {w0 w : World} {M : Nat → Prop} {L D : List Res} {Tf Ti Tb Ta : TypeId} {xs : List FunP} {l : List InstP} {n : Nat}
theorem St.noFuns (h : St w0 M L D w) (Tf Ti Tb : TypeId) : St w0 M (Res.ofuns Tf Ti Tb none 0 [] :: L) D w := ((h.starNil).pushNil Tf 5).starCons
theorem St.dropFun (h : St w0 M (Res.star ((xs.drop n).map (Res.ofun Ti Tb)) :: L) D w) (hn : n < xs.length) : St w0 M (Res.sl (xs.getD (n : Int).toNat zeroFun).po (xs.getD (n : Int).toNat zeroFun).fu.params.length (xs.getD (n : Int).toNat zeroFun).pc Ti 1 ((xs.getD (n : Int).toNat zeroFun).fu.params.flatMap intC) :: Res.sl (xs.getD (n : Int).toNat zeroFun).bo (xs.getD (n : Int).toNat zeroFun).fu.blocks.length (xs.getD (n : Int).toNat zeroFun).bc Tb 3 ((xs.getD (n : Int).toNat zeroFun).fu.blocks.flatMap bkC) :: Res.star ((xs.drop (n + 1)).map (Res.ofun Ti Tb)) :: L) D w := by
  rw [drop_getD2 zeroFun hn, List.map_cons] at h
  exact (h.starUncons (r := Res.ofun Ti Tb (xs.getD n zeroFun))).unpack
theorem St.dropArgs (h : St w0 M (Res.star ((l.drop n).map (Res.oargs Ta)) :: L) D w) (hn : n < l.length) : St w0 M (Res.oargs Ta (l.getD (n : Int).toNat zeroI) :: Res.star ((l.drop (n + 1)).map (Res.oargs Ta)) :: L) D w := by
  rw [drop_getD2 zeroI hn, List.map_cons] at h
  exact h.starUncons (r := Res.oargs Ta (l.getD n zeroI))
end
def spI : InstP := ⟨777, 77, 7777, none, 0, []⟩
def spL (l : List InstP) (i : Nat) : List InstP := List.replicate i spI ++ l.drop i
theorem spL_len {l : List InstP} {i : Nat} (h : i ≤ l.length) : (spL l i).length = l.length := by
  unfold spL; rw [List.length_append, List.length_replicate, List.length_drop]; omega
theorem spL_get {l : List InstP} {i : Nat} (h : i < l.length) : (spL l i).getD (i : Int).toNat zeroI = l.getD (i : Int).toNat zeroI := by
  unfold spL
  rw [Int.toNat_natCast, drop_getD2 zeroI h]
  simp only [List.getD]
  rw [List.getElem?_append_right (by simp), List.length_replicate, Nat.sub_self]; simp
theorem spL_step {l : List InstP} {i : Nat} (h : i < l.length) : setSeg ((spL l i).flatMap instC) (0 + (i : Int).toNat * 4) [.int .u16 777, .int .u32 77, .int .u32 7777, .slice none 0 0] = (spL l (i + 1)).flatMap instC := by
  rw [Nat.zero_add, Int.toNat_natCast]
  have := setSeg_flat instC_len spI (spL l i) i (by rw [spL_len (by omega)]; exact h)
  refine Eq.trans this ?_
  congr 1
  unfold spL
  rw [drop_getD2 zeroI h, List.set_append_right _ _ (by simp), List.length_replicate, Nat.sub_self, List.set_cons_zero, List.replicate_succ', List.append_assoc]; rfl
end Go.SK
namespace Go.SK
open Go Go.Proofs
theorem ty9 : TyF Try.prog 9 .string 1 16 [str []] := TyF.of (by kernel_rfl) (by kernel_rfl)
end Go.SK
namespace Go.SK
open Go Go.Proofs
open Go.RowKit
theorem R5wd_Room (s : List UInt8) (w : World) (hl : s.length ≤ 9000000000000000000) : Ret Try.prog 80 #[str s] w (fun v w' => v = .int .i64 ((s.length / 4 + 1 : Nat) : Int) ∧ St w NoM [] [] w') := by
 refine Ret.enter (args := [str s]) Try.func80 rfl rfl rfl ?_
 have hst := St.init w
 refine SR <| AI rfl <| NSR <| MS rfl <| CN (Op1.lenS (rest := []) ty9 rfl ?_)
 first | refine CN (Op1.quoN rfl rfl (by omega) (by omega) rfl (wrap_i64 (by omega) (by omega)) ?_) | refine CN (Op1.quo rfl rfl (by omega) ?_)
 refine CN <| Op1.addN rfl rfl rfl (wrap_i64 (by omega) (by omega)) <| AI rfl <| NL <| run_ret1 Try.func80 rfl (TP (v := .int .i64 _) rfl) ?_
 exact ⟨congrArg (Value.int .i64) (by omega), hst.pure⟩
theorem R5ref1_Room (s : List UInt8) (w : World) (hl : s.length ≤ 9000000000000000000) : Ret Try.prog 48 #[str s] w (fun v w' => v = .int .i64 ((s.length / 4 + 1 : Nat) : Int) ∧ St w NoM [] [] w') := by
 refine Ret.enter (args := [str s]) Try.func48 rfl rfl rfl ?_
 have hst := St.init w
 refine SR <| AI rfl <| NSR <| MS rfl <| CN (Op1.lenS (rest := []) ty9 rfl ?_)
 first | refine CN (Op1.quoN rfl rfl (by omega) (by omega) rfl (wrap_i64 (by omega) (by omega)) ?_) | refine CN (Op1.quo rfl rfl (by omega) ?_)
 refine CN <| Op1.addN rfl rfl rfl (wrap_i64 (by omega) (by omega)) <| AI rfl <| NL <| run_ret1 Try.func48 rfl (TP (v := .int .i64 _) rfl) ?_
 exact ⟨congrArg (Value.int .i64) (by omega), hst.pure⟩
end Go.SK
namespace Go.SK
open Go Go.Proofs
theorem ent80 : Enters Try.prog 80 := ⟨Try.f80, _, Try.func80, by kernel_rfl, rfl⟩
theorem ty93 : TyF Try.prog 93 (.slice 22) 1 24 [.slice none 0 0] := TyF.of (by kernel_rfl) (by kernel_rfl)
theorem ty22 : TyF Try.prog 22 (.int .u32) 1 4 [.int .u32 0] := TyF.of (by kernel_rfl) (by kernel_rfl)
theorem ty5 : TyF Try.prog 5 (.int .u8) 1 1 [.int .u8 0] := TyF.of (by kernel_rfl) (by kernel_rfl)
theorem followsMixed : Try.prog.follows .mixedOrders = true := by kernel_rfl
end Go.SK
namespace Go.SK
open Go Go.Proofs
open Go.RowKit
theorem R5wd_OfText (s : List UInt8) (w : World) (hl : s.length ≤ 100000000000000) : Ret Try.prog 79 #[str s] w (fun v w' => ∃ ro rc, v = .tuple #[.slice ro (ofTextL s).length rc, .int .i64 (ofTextE s)] ∧ St w NoM [Res.sl ro (ofTextL s).length rc 22 1 ((ofTextL s).flatMap u32C)] [] w') := by
 refine Ret.enter (args := [str s]) Try.func79 rfl rfl rfl ?_
 have hst := St.init w
 refine SR <| AL rfl <| AI rfl <| NL <| SQ <| SR <| MS rfl <| CN <| Op1.lenS (rest := []) ty9 rfl <| MI rfl <| NL <| run_block <| run_loop <| Run.indW [(0, str _), (8, .int .i64 _)] ⟨rfl, rfl, trivial⟩ (fun (i : Nat) => [(9, .int .i64 (i : Int))]) (fun (i : Nat) => []) (fun (i : Nat) => i ≤ s.length ∧ ∀ r, r < i → s.getD r 0 ≠ 0) (fun (i : Nat) => s.length - i) (0) hst ⟨Nat.zero_le _, fun r hr => absurd hr (by omega)⟩ ⟨rfl, trivial⟩ ?_
 intro i f w hst hJ ih1
 refine SR <| CN <| Op1.lss rfl rfl <| NL <| SQ <| run_cond_dec rfl (fun g2 => ?_) (fun g2 => ?_)
 · skip
   refine run_skip <| SQ <| run_block <| SR <| MI rfl <| AI rfl <| NSR <| MS rfl <| MI rfl <| CN <| Op1.indexS ty9 rfl rfl (by omega) (by omega) <| CN <| Op1.eql rfl rfl <| NL ?_
   refine run_cond_dec rfl (fun g3 => ?_) (fun g3 => ?_)
   · skip
     refine SR <| AL rfl <| AI rfl <| NL <| run_ret2 Try.func79 rfl (TP (v := .slice _ _ _) rfl) (TP (v := .int .i64 _) rfl) ?_
     replace hst := hst.pick .nil
     have he := ofTextE_zero (by omega) g3 hJ.2
     rw [ofTextL_err (by rw [he]; decide), he]
     exact ⟨none, 0, rfl, (hst.pushNil 22 1).noD⟩
   refine run_skip <| run_inBlock <| RG <| CN <| Op1.addN rfl rfl rfl (wrap_i64 (by omega) (by omega)) <| MI rfl <| NL <| run_inLoop ?_
   exact ih1 (i + 1) _ w (by omega) hst (⟨by omega, nz_step hJ.2 (byte1 g3)⟩) ⟨rfl, rfl, trivial⟩ ⟨(congrArg (Value.int .i64) (by omega)), trivial⟩
 refine run_exit (id := 0) rfl <| SQ <| SR <| MS rfl <| CN <| Op1.call1 (v1 := str _) ent80 rfl rfl <| Ret.det (R5wd_Room s _ (by omega)) hst fun w hst => CN <| Op1.gtr rfl rfl <| NL <| run_cond_dec rfl (fun g4 => ?_) (fun g4 => ?_)
 · skip
   refine SR <| AL rfl <| AI rfl <| NL <| run_ret2 Try.func79 rfl (TP (v := .slice _ _ _) rfl) (TP (v := .int .i64 _) rfl) ?_
   replace hst := hst.pick .nil
   have he := ofTextE_large (s := s) (fun r hr => hJ.2 r (by omega)) (by omega)
   rw [ofTextL_err (by rw [he]; decide), he]
   exact ⟨none, 0, rfl, (hst.pushNil 22 1).noD⟩
 refine run_skip <| SR <| MS rfl <| CN <| Op1.call1 (v1 := str _) ent80 rfl rfl <| Ret.det (R5wd_Room s _ (by omega)) hst fun w hst => CN (Op1.makeSlV (k := s.length / 4 + 1) hst ty93 ty22 rfl rfl rfl (by decide) (by omega) (by omega) fun w bC hst => ?_)
 rw [fill_zero] at hst
 refine AL rfl <| NL <| SQ <| SR <| MS rfl <| CN <| Op1.lenS (rest := []) ty9 rfl <| MI rfl <| NL <| run_block <| run_loop <| Run.indW [(0, str _), (5, .slice _ _ _), (24, .int .i64 _)] ⟨rfl, rfl, rfl, trivial⟩ (fun (i : Nat) => [(25, .int .i64 (i : Int))]) (fun (i : Nat) => [Res.sl (some ⟨bC, 0, none⟩) (s.length / 4 + 1) (s.length / 4 + 1) 22 1 ((splitW (fillB s i)).flatMap u32C)]) (fun (i : Nat) => i ≤ s.length) (fun (i : Nat) => s.length - i) (0) hst (Nat.zero_le _) ⟨rfl, trivial⟩ ?_
 intro i f w hst hK ih5
 have hLl := fillW_len (s := s) (i := i) hK
 refine SR <| CN <| Op1.lss rfl rfl <| NL <| SQ <| run_cond_dec rfl (fun g6 => ?_) (fun g6 => ?_)
 · skip
   have hlow := fill_low (s := s) (i := i) (by omega)
   refine run_skip <| SQ <| run_block <| SR <| MI rfl <| AI rfl <| NL <| RunD.start [] hst (bs := [0, 0, 2, 7, 15, 0, 0, 96, 224, 0, 512, 1536, 4064, 8191, 16383, 32767]) (ds := [some 28, some 29, some 30, some 31, some 32, some 33, some 34, some 35, some 36, some 37, some 38, some 39, some 40, some 41, some 42, none]) ⟨by kernel_rfl, by kernel_rfl, by kernel_rfl⟩ (fun tab7 => ?_)
   refine RunD.op (det _) tab7 1 (fun f' L' w' hc => Op1.move (v := .slice _ _ _) (hc.old (v := .slice _ _ _) rfl rfl rfl) ⟨[], ⟨rfl, rfl⟩, hc.st⟩) <| RunD.op (det _) tab7 2 (fun f' L' w' hc => Op1.move (v := .int .i64 _) (hc.old (v := .int .i64 _) rfl rfl rfl) ⟨[], ⟨rfl, rfl⟩, hc.st⟩) ?_
   first | refine RunD.op (det _) tab7 3 (fun f' L' w' hc => Op1.quoN (hc.det (j := 1) rfl rfl rfl rfl) rfl (by omega) (by omega) rfl (wrap_i64 (by omega) (by omega)) ⟨[], ⟨rfl, rfl⟩, hc.st⟩) ?_ | refine RunD.op (det _) tab7 3 (fun f' L' w' hc => Op1.quo (hc.det (j := 1) rfl rfl rfl rfl) rfl (by omega) ⟨[], ⟨rfl, rfl⟩, hc.st⟩) ?_
   refine RunD.op (det _) tab7 4 (fun f' L' w' hc => Op1.indexSl ty93 ty22 (hc.det (j := 0) rfl rfl rfl rfl) (hc.det (j := 2) rfl rfl rfl rfl) (by omega) (by omega) ⟨[], ⟨rfl, rfl⟩, hc.st⟩) <| RunD.op (det _) tab7 5 (fun f' L' w' hc => Op1.load1 (v := .int .u32 _) ty22 rfl (hc.det (j := 3) rfl rfl rfl rfl) (Res.sl_cell (hc.st.hL _ (List.mem_append_right _ (.head _))) (flat_cell0 (g := u32C) (d := 0) u32C_len rfl (by omega))) ⟨[], ⟨rfl, rfl⟩, hc.st⟩) <| RunD.op (det _) tab7 6 (fun f' L' w' hc => Op1.move (v := str _) (hc.old (v := str _) rfl rfl rfl) ⟨[], ⟨rfl, rfl⟩, hc.st⟩) <| RunD.op (det _) tab7 7 (fun f' L' w' hc => Op1.move (v := .int .i64 _) (hc.old (v := .int .i64 _) rfl rfl rfl) ⟨[], ⟨rfl, rfl⟩, hc.st⟩) <| RunD.op (det _) tab7 8 (fun f' L' w' hc => Op1.indexS ty9 (hc.det (j := 5) rfl rfl rfl rfl) (hc.det (j := 6) rfl rfl rfl rfl) (by omega) (by omega) ⟨[], ⟨rfl, rfl⟩, hc.st⟩) ?_
   first | refine RunD.op (det _) tab7 9 (fun f' L' w' hc => Op1.convN ty5 ty22 (hc.det (j := 7) rfl rfl rfl rfl) (wrap_u32 (by omega) (by omega)) ⟨[], ⟨rfl, rfl⟩, hc.st⟩) ?_ | refine RunD.op (det _) tab7 9 (fun f' L' w' hc => Op1.convN ty5 ty22 (hc.det (j := 7) rfl rfl rfl rfl) (wrapB_u32 _) ⟨[], ⟨rfl, rfl⟩, hc.st⟩) ?_ | refine RunD.op (det _) tab7 9 (fun f' L' w' hc => Op1.conv ty5 ty22 (hc.det (j := 7) rfl rfl rfl rfl) ⟨[], ⟨rfl, rfl⟩, hc.st⟩) ?_
   refine RunD.op (det _) tab7 10 (fun f' L' w' hc => Op1.move (v := .int .i64 _) (hc.old (v := .int .i64 _) rfl rfl rfl) ⟨[], ⟨rfl, rfl⟩, hc.st⟩) ?_
   first | refine RunD.op (det _) tab7 11 (fun f' L' w' hc => Op1.remN (hc.det (j := 9) rfl rfl rfl rfl) rfl (by omega) (by omega) rfl ⟨[], ⟨rfl, rfl⟩, hc.st⟩) ?_ | refine RunD.op (det _) tab7 11 (fun f' L' w' hc => Op1.rem (hc.det (j := 9) rfl rfl rfl rfl) rfl (by omega) ⟨[], ⟨rfl, rfl⟩, hc.st⟩) ?_
   refine RunD.op (det _) tab7 12 (fun f' L' w' hc => Op1.mulN rfl (hc.det (j := 10) rfl rfl rfl rfl) rfl (wrap_i64 (by omega) (by omega)) ⟨[], ⟨rfl, rfl⟩, hc.st⟩) <| RunD.op (det _) tab7 13 (fun f' L' w' hc => Op1.shlV (c := ((s.getD i 0).toNat : Int) * 256 ^ (i % 4)) (hc.det (j := 8) rfl rfl rfl rfl) (hc.det (j := 11) rfl rfl rfl rfl) (by omega) (by show _ ≤ 32; omega) (shl_byte (s.getD i 0) i) ⟨[], ⟨rfl, rfl⟩, hc.st⟩) <| RunD.fin followsMixed tab7 hst rfl (fun f8 w R11 hs9 hd10 hr12 hst => ?_)
   obtain ⟨h28_, r0⟩ := hd10 0 28 rfl rfl
   obtain ⟨h29_, r1⟩ := hd10 1 29 rfl rfl
   obtain ⟨h30_, r2⟩ := hd10 2 30 rfl rfl
   obtain ⟨h31_, r3⟩ := hd10 3 31 rfl rfl
   obtain ⟨h32_, r4⟩ := hd10 4 32 rfl rfl
   obtain ⟨h33_, r5⟩ := hd10 5 33 rfl rfl
   obtain ⟨h34_, r6⟩ := hd10 6 34 rfl rfl
   obtain ⟨h35_, r7⟩ := hd10 7 35 rfl rfl
   obtain ⟨h36_, r8⟩ := hd10 8 36 rfl rfl
   obtain ⟨h37_, r9⟩ := hd10 9 37 rfl rfl
   obtain ⟨h38_, r10⟩ := hd10 10 38 rfl rfl
   obtain ⟨h39_, r11⟩ := hd10 11 39 rfl rfl
   obtain ⟨h40_, r12⟩ := hd10 12 40 rfl rfl
   simp only [show List.range 13 = [0, 1, 2, 3, 4, 5, 6, 7, 8, 9, 10, 11, 12] from rfl, List.flatMap_cons, List.flatMap_nil, List.map_cons, List.map_nil, r0, r1, r2, r3, r4, r5, r6, r7, r8, r9, r10, r11, r12, List.nil_append, List.append_nil, List.cons_append] at hst
   refine RunL.slots (sl := [(0, str _), (5, .slice _ _ _), (24, .int .i64 _), (25, .int .i64 _), (28, .slice _ _ _), (30, .int .i64 _), (32, .int .u32 _), (40, .int .u32 _)]) ⟨(hs9 0 rfl).trans rfl, (hs9 5 rfl).trans rfl, (hs9 24 rfl).trans rfl, (hs9 25 rfl).trans rfl, h28_, h30_, h32_, h40_, trivial⟩ ?_
   clear hs9 hd10 hr12 tab7
   refine CN <| Op1.orHigh (a := (splitW (fillB s i)).getD (i / 4) 0) (m := 8 * (i % 4)) (q := ((s.getD i 0).toNat : Int)) (c := (splitW (fillB s i)).getD (i / 4) 0 + ((s.getD i 0).toNat : Int) * 256 ^ (i % 4)) rfl rfl hlow.1 hlow.2.1 (by rw [pow256 (by omega)]) (by omega) rfl hlow.2.2 <| CN <| Op1.indexSl ty93 ty22 rfl rfl (by omega) (by omega) <| CN <| Op1.storeSl (v := .int .u32 _) hst ty22 rfl rfl rfl rfl rfl (.here) (by simp only [List.length_cons, List.length_nil]; omega) fun w hst => NL <| run_inBlock <| RG <| CN <| Op1.addN rfl rfl rfl (wrap_i64 (by omega) (by omega)) <| MI rfl <| NL <| run_inLoop ?_
   exact ih5 (i + 1) _ w (by omega) (by (try dsimp only); rw [← fill_step (s := s) (i := i) (by omega)]; exact hst) (by omega) ⟨rfl, rfl, rfl, trivial⟩ ⟨(congrArg (Value.int .i64) (by omega)), trivial⟩
 have hi : i = s.length := by omega
 subst hi
 have hpd : fillB s s.length = padded s := rfl
 rw [hpd] at hst
 refine run_exit (id := 2) rfl <| SR <| ML rfl <| AL rfl <| AI rfl <| NL <| run_ret2 Try.func79 rfl (TP (v := .slice _ _ _) rfl) (TP (v := .int .i64 _) rfl) ?_
 replace hst := hst.pick (.cons (.here) .nil)
 have he := ofTextE_ok (s := s) (fun r hr => hJ.2 r (by omega)) (by omega)
 have hpl : (splitW (padded s)).length = s.length / 4 + 1 := by rw [splitW_len, padded_len]; omega
 rw [ofTextL_ok he, he, hpl]
 exact ⟨_, _, rfl, hst.noD⟩
end Go.SK
namespace Go.SK
open Go Go.Proofs
theorem ty29 : TyF Try.prog 29 (.struct (fieldsOf Try.prog 29)) 2 16 [.int .i64 0, .int .i64 0] := TyF.of (by kernel_rfl) (by kernel_rfl)
theorem ty78 : TyF Try.prog 78 (.slice 95) 1 24 [.slice none 0 0] := TyF.of (by kernel_rfl) (by kernel_rfl)
theorem ty95 : TyF Try.prog 95 (.struct (fieldsOf Try.prog 95)) 2 32 [.int .u16 0, .slice none 0 0] := TyF.of (by kernel_rfl) (by kernel_rfl)
theorem fld95_1 : FldF Try.prog 95 1 1 := FldF.of (n := 0) (by kernel_rfl)
theorem stf29 : StructF Try.prog 29 [(0, 1), (1, 1)] := ⟨fieldsOf Try.prog 29, by kernel_rfl, fun w => by kernel_rfl⟩
end Go.SK
namespace Go.SK
open Go Go.Proofs
open Go.RowKit
theorem R5fr_counted (l : List RawP) (ao : Option Addr) (cp : Nat) (w : World) (hA : (Res.rs ao l.length 2 (l.flatMap rawC)).holds w) (hl : l.length ≤ 35184372088832) (hla : ∀ r ∈ l, r.ws.length ≤ 35184372088832) : Ret Try.prog 57 #[.slice ao l.length cp] w (fun v w' => v = cntV (cntF 5 0 (l.map rawN)) ∧ St w NoM [] [] w') := by
 refine Ret.enter (args := [.slice ao l.length cp]) Try.func57 rfl rfl rfl ?_
 have hst : St w NoM [] [Res.rs ao l.length 2 (l.flatMap rawC)] w := St.init_D hA
 clear hA
 refine SR <| AI rfl <| CN <| Op1.alloc hst ty29 fun w b3 hst => NSR <| AI rfl <| NL <| SQ <| SR <| ML rfl <| CN <| Op1.lenSl (rest := []) ty78 rfl <| MI rfl ?_
 refine NL <| run_block <| run_loop <| Run.indW [(3, .pointer (some ⟨_, _, none⟩)), (7, .slice _ _ _), (8, .int .i64 _)] ⟨rfl, rfl, rfl, trivial⟩ (fun (q : Nat × Nat) => [(4, .int .i64 (q.2 : Int)), (9, .int .i64 (q.1 : Int))]) (fun (q : Nat × Nat) => []) (fun (q : Nat × Nat) => q.1 ≤ l.length ∧ q.2 ≤ 1048576 ∧ cntF 5 0 (l.map rawN) = cntF q.2 q.1 ((l.map rawN).drop q.1)) (fun (q : Nat × Nat) => l.length - q.1) ((0, 5)) hst ⟨Nat.zero_le _, by decide, rfl⟩ ⟨rfl, rfl, trivial⟩ ?_
 intro ⟨i, n⟩ f w hst hJ ih1
 replace hst : St _ _ ([] ++ [_]) _ _ := hst
 replace hJ : i ≤ l.length ∧ n ≤ 1048576 ∧ cntF 5 0 (l.map rawN) = cntF n i ((l.map rawN).drop i) := hJ
 refine Run.slots (sl := [(4, .int .i64 (n : Int)), (9, .int .i64 (i : Int))]) ⟨rfl, rfl, trivial⟩ <| SR <| CN <| Op1.lss rfl rfl <| NL <| SQ <| run_cond_dec rfl (fun g2 => ?_) (fun g2 => ?_)
 · skip
   have hlen := hla _ (getD_memD (d := zeroR) (i := i) (by omega))
   have hidx : (l.getD ((i : Int).toNat) zeroR).ws.length = (l.getD i zeroR).ws.length := rfl
   refine run_skip <| SQ <| run_block <| SR <| MI rfl <| CN <| Op1.indexRs ty78 ty95 (hst.hD _ (.head _)) rfl rfl (by omega) (by omega) <| CN <| Op1.loadA (vs := [.int .u16 _, .slice _ _ _]) ty95 rfl rfl rfl (Res.rs2_cells (m := 2) (hst.hD _ (.head _)) _ (flat_seg (g := rawC) (d := zeroR) rawC_len _ _ (by omega))) <| CN <| Op1.alloc hst ty95 fun w b6 hst => AI rfl <| CN (SO (v := .agg #[.int .u16 _, .slice _ _ _]) hst ty95 rfl rfl (.here) fun w hst => ?_)
   refine NSR <| MI rfl <| CN <| Op1.fieldAddr fld95_1 rfl <| CN <| Op1.load1 (v := .slice _ _ _) ty93 rfl rfl (hst.cellL (.head _) rfl) <| CN <| Op1.lenSl (rest := []) ty93 rfl <| CN <| Op1.addN rfl rfl rfl (wrap_i64 (by omega) (by omega)) <| CN <| Op1.addN rfl rfl rfl (wrap_i64 (by omega) (by omega)) <| AI rfl <| NL <| run_block <| SR <| CN (Op1.fieldAddr fld95_1 rfl ?_)
   refine CN <| Op1.load1 (v := .slice _ _ _) ty93 rfl rfl (hst.cellL (.head _) rfl) <| CN <| Op1.lenSl (rest := []) ty93 rfl <| CN <| Op1.geq rfl rfl <| AB rfl <| NL <| run_cond_dec rfl (fun g3 => ?_) (fun g3 => ?_)
   · skip
     refine SR <| MI rfl <| CN (Op1.buildStruct ty29 stf29 (.c (v := .int .i64 _) rfl (h := (.c (v := .int .i64 _) rfl (h := .nil)))) ?_)
     refine AI rfl <| CN (SO (v := .agg #[.int .i64 _, .int .i64 _]) hst ty29 rfl rfl (.there (.here)) fun w hst => ?_)
     refine NL <| run_ret2 Try.func57 rfl (TP (v := .int .i64 _) rfl) (RV.cellA (vs := [.int .i64 _, .int .i64 _]) rfl ty29 rfl rfl (cells_of_obj (n := 2) (hst.objL (.tail _ (.head _))) _ rfl)) ?_
     rw [hJ.2.2, cnt_count (by omega) (by omega)]
     exact ⟨rfl, hst.pure⟩
   refine SR <| MI rfl <| CN <| Op1.gtr rfl rfl <| AB rfl <| NL <| Run.forget [(3, .pointer (some ⟨_, _, none⟩)), (4, .int .i64 _), (5, .int .i64 _), (7, .slice _ _ _), (8, .int .i64 _), (9, .int .i64 _), (27, .bool _)] ⟨rfl, rfl, rfl, rfl, rfl, rfl, rfl, trivial⟩ fun f => run_cond_dec rfl (fun g4 => ?_) (fun g4 => ?_)
   · skip
     refine SR <| MI rfl <| CN (Op1.buildStruct ty29 stf29 (.c (v := .int .i64 _) rfl (h := (.c (v := .int .i64 _) rfl (h := .nil)))) ?_)
     refine AI rfl <| CN (SO (v := .agg #[.int .i64 _, .int .i64 _]) hst ty29 rfl rfl (.there (.here)) fun w hst => ?_)
     refine NL <| run_ret2 Try.func57 rfl (TP (v := .int .i64 _) rfl) (RV.cellA (vs := [.int .i64 _, .int .i64 _]) rfl ty29 rfl rfl (cells_of_obj (n := 2) (hst.objL (.tail _ (.head _))) _ rfl)) ?_
     rw [hJ.2.2, cnt_large (by omega) (by omega) (by omega)]
     exact ⟨rfl, hst.pure⟩
   refine run_skip <| run_inBlock <| run_inBlock <| RG <| CN <| Op1.addN rfl rfl rfl (wrap_i64 (by omega) (by omega)) <| MI rfl <| NL <| run_inLoop ?_
   replace hst := hst.pick (.cons (.there (.here)) .nil)
   exact ih1 ((i + 1, n + 1 + (l.getD i zeroR).ws.length)) _ w (by (try dsimp only); omega) hst (⟨by (try dsimp only); omega, by (try dsimp only); omega, by (try dsimp only); rw [hJ.2.2, cnt_next (by omega) (by omega) (by omega)]⟩) ⟨rfl, rfl, rfl, trivial⟩ ⟨(congrArg (Value.int .i64) (by (try dsimp only); omega)), (congrArg (Value.int .i64) (by (try dsimp only); omega)), trivial⟩
 obtain rfl : i = l.length := by omega
 refine run_exit (id := 0) rfl <| SR <| MI rfl <| CN (Op1.buildStruct ty29 stf29 .nil ?_)
 refine AI rfl <| CN (SO (v := .agg #[.int .i64 _, .int .i64 _]) hst ty29 rfl rfl (.here) fun w hst => ?_)
 refine NL <| run_ret2 Try.func57 rfl (TP (v := .int .i64 _) rfl) (RV.cellA (vs := [.int .i64 _, .int .i64 _]) rfl ty29 rfl rfl (cells_of_obj (n := 2) (hst.objL (.head _)) _ rfl)) ?_
 rw [hJ.2.2, cnt_end]
 exact ⟨rfl, hst.pure⟩
end Go.SK
namespace Go.SK
open Go Go.Proofs
theorem ent57 : Enters Try.prog 57 := ⟨Try.f57, _, Try.func57, by kernel_rfl, rfl⟩
theorem fld29_0 : FldF Try.prog 29 0 0 := FldF.of (n := 0) (by kernel_rfl)
theorem ty27 : TyF Try.prog 27 (.int .i64) 1 8 [.int .i64 0] := TyF.of (by kernel_rfl) (by kernel_rfl)
end Go.SK
namespace Go.SK
open Go Go.Proofs
open Go.RowKit
theorem R5fr_Size (l : List RawP) (ao : Option Addr) (cp : Nat) (w : World) (hA : (Res.rs ao l.length 2 (l.flatMap rawC)).holds w) (hl : l.length ≤ 35184372088832) (hla : ∀ r ∈ l, r.ws.length ≤ 35184372088832) : Ret Try.prog 49 #[.slice ao l.length cp] w (fun v w' => v = .tuple #[.int .i64 (cntF 5 0 (l.map rawN)).1, .int .i64 (cntF 5 0 (l.map rawN)).2.1] ∧ St w NoM [] [] w') := by
 refine Ret.enter (args := [.slice ao l.length cp]) Try.func49 rfl rfl rfl ?_
 have hst : St w NoM [] [Res.rs ao l.length 2 (l.flatMap rawC)] w := St.init_D hA
 clear hA
 refine SR <| AI rfl <| AI rfl <| NSR <| ML rfl <| CN <| Op1.call1 (v1 := .slice _ _ _) ent57 rfl rfl <| Ret.det (R5fr_counted _ _ _ _ (hst.hD _ (.head _)) hl hla) hst fun w hst => CN <| Op1.move (v := .tuple #[.int .i64 _, .agg #[.int .i64 _, .int .i64 _]]) rfl <| CN <| Op1.extract (v := .int .i64 _) rfl rfl <| CN <| Op1.extract (v := .agg #[.int .i64 _, .int .i64 _]) rfl rfl <| CN <| Op1.alloc hst ty29 fun w b5 hst => AI rfl <| CN (SO (v := .agg #[.int .i64 _, .int .i64 _]) hst ty29 rfl rfl (.here) fun w hst => ?_)
 refine NL <| SQ <| RunD.start [] hst (bs := [0, 0, 2, 1, 15]) (ds := [some 11, some 12, some 13, some 2, some 3]) ⟨by kernel_rfl, by kernel_rfl, by kernel_rfl⟩ (fun tab1 => ?_)
 refine RunD.op (det _) tab1 1 (fun f' L' w' hc => Op1.move (v := .int .i64 _) (hc.old (v := .int .i64 _) rfl rfl rfl) ⟨[], ⟨rfl, rfl⟩, hc.st⟩) <| RunD.op (det _) tab1 2 (fun f' L' w' hc => Op1.fieldAddr fld29_0 (hc.old (v := .pointer (some ⟨_, _, none⟩)) rfl rfl rfl) ⟨[], ⟨rfl, rfl⟩, hc.st⟩) <| RunD.op (det _) tab1 3 (fun f' L' w' hc => Op1.load1 (v := .int .i64 _) ty27 rfl (hc.det (j := 1) rfl rfl rfl rfl) (hc.st.cellL (List.mem_append_right _ (.head _)) rfl) ⟨[], ⟨rfl, rfl⟩, hc.st⟩) <| RunD.op (det _) tab1 4 (fun f' L' w' hc => Op1.assign (v := .int .i64 _) (hc.det (j := 0) rfl rfl rfl rfl) ⟨[], ⟨rfl, rfl⟩, hc.st⟩) <| RunD.fin followsMixed tab1 hst rfl (fun f2 w R5 hs3 hd4 hr6 hst => ?_)
 obtain ⟨h11_, r0⟩ := hd4 0 11 rfl rfl
 obtain ⟨h12_, r1⟩ := hd4 1 12 rfl rfl
 obtain ⟨h13_, r2⟩ := hd4 2 13 rfl rfl
 obtain ⟨h2_, r3⟩ := hd4 3 2 rfl rfl
 simp only [show List.range 4 = [0, 1, 2, 3] from rfl, List.flatMap_cons, List.flatMap_nil, List.map_cons, List.map_nil, r0, r1, r2, r3, List.nil_append, List.append_nil, List.cons_append] at hst
 refine RunL.slots (sl := [(2, .int .i64 _), (13, .int .i64 _)]) ⟨h2_, h13_, trivial⟩ ?_
 clear hs3 hd4 hr6 tab1
 refine AI rfl <| NL <| run_ret2 Try.func49 rfl (TP (v := .int .i64 _) rfl) (TP (v := .int .i64 _) rfl) ?_
 exact ⟨rfl, hst.pure⟩
end Go.SK
namespace Go.SK
open Go Go.Proofs
theorem stf95 : StructF Try.prog 95 [(0, 1), (1, 1)] := ⟨fieldsOf Try.prog 95, by kernel_rfl, fun w => by kernel_rfl⟩
end Go.SK
namespace Go.SK
open Go Go.Proofs
theorem ent73 : Enters Try.prog 73 := ⟨Try.f73, _, Try.func73, by kernel_rfl, rfl⟩
theorem ent74 : Enters Try.prog 74 := ⟨Try.f74, _, Try.func74, by kernel_rfl, rfl⟩
theorem ent75 : Enters Try.prog 75 := ⟨Try.f75, _, Try.func75, by kernel_rfl, rfl⟩
theorem ty118 : TyF Try.prog 118 (.array 6 9) 6 96 [str [], str [], str [], str [], str [], str []] := TyF.of (by kernel_rfl) (by kernel_rfl)
theorem ty21 : TyF Try.prog 21 (.int .i32) 1 4 [.int .i32 0] := TyF.of (by kernel_rfl) (by kernel_rfl)
end Go.SK
namespace Go.SK
open Go Go.Proofs
open Go.RowKit
theorem R5gr_first (op : Int) (w : World) : Ret Try.prog 73 #[.int .u16 op] w (fun v w' => v = str (look firstT op) ∧ St w NoM [] [] w') := by
 refine Ret.enter (args := [.int .u16 op]) Try.func73 rfl rfl rfl ?_
 have hst := St.init w
 refine SR <| AS rfl <| NL <| SQ <| SR <| MH rfl <| NL <| run_block <| SR <| CN <| Op1.eql rfl rfl <| AB rfl <| NL ?_
 refine run_cond_dec rfl (fun g1 => ?_) (fun g1 => ?_)
 · skip
   refine SR <| AS rfl <| NL <| run_ret1 Try.func73 rfl (TP (v := str _) rfl) ?_
   subst g1
   exact ⟨congrArg str (by decide +kernel), hst.pure⟩
 refine SR <| CN <| Op1.eql rfl rfl <| AB rfl <| NL <| run_cond_dec rfl (fun g2 => ?_) (fun g2 => ?_)
 · skip
   refine SR <| AS rfl <| NL <| run_ret1 Try.func73 rfl (TP (v := str _) rfl) ?_
   subst g2
   exact ⟨congrArg str (by decide +kernel), hst.pure⟩
 refine SR <| CN <| Op1.eql rfl rfl <| AB rfl <| NL <| run_cond_dec rfl (fun g3 => ?_) (fun g3 => ?_)
 · skip
   refine SR <| AS rfl <| NL <| run_ret1 Try.func73 rfl (TP (v := str _) rfl) ?_
   subst g3
   exact ⟨congrArg str (by decide +kernel), hst.pure⟩
 refine SR <| CN <| Op1.eql rfl rfl <| AB rfl <| NL <| run_cond_dec rfl (fun g4 => ?_) (fun g4 => ?_)
 · skip
   refine SR <| AS rfl <| NL <| run_ret1 Try.func73 rfl (TP (v := str _) rfl) ?_
   subst g4
   exact ⟨congrArg str (by decide +kernel), hst.pure⟩
 refine SR <| CN <| Op1.eql rfl rfl <| AB rfl <| NL <| run_cond_dec rfl (fun g5 => ?_) (fun g5 => ?_)
 · skip
   refine SR <| AS rfl <| NL <| run_ret1 Try.func73 rfl (TP (v := str _) rfl) ?_
   subst g5
   exact ⟨congrArg str (by decide +kernel), hst.pure⟩
 refine SR <| CN <| Op1.eql rfl rfl <| AB rfl <| NL <| run_cond_dec rfl (fun g6 => ?_) (fun g6 => ?_)
 · skip
   refine SR <| AS rfl <| NL <| run_ret1 Try.func73 rfl (TP (v := str _) rfl) ?_
   subst g6
   exact ⟨congrArg str (by decide +kernel), hst.pure⟩
 refine SR <| CN <| Op1.eql rfl rfl <| AB rfl <| NL <| run_cond_dec rfl (fun g7 => ?_) (fun g7 => ?_)
 · skip
   refine SR <| AS rfl <| NL <| run_ret1 Try.func73 rfl (TP (v := str _) rfl) ?_
   subst g7
   exact ⟨congrArg str (by decide +kernel), hst.pure⟩
 refine SR <| CN <| Op1.eql rfl rfl <| AB rfl <| NL <| run_cond_dec rfl (fun g8 => ?_) (fun g8 => ?_)
 · skip
   refine SR <| AS rfl <| NL <| run_ret1 Try.func73 rfl (TP (v := str _) rfl) ?_
   subst g8
   exact ⟨congrArg str (by decide +kernel), hst.pure⟩
 refine SR <| CN <| Op1.eql rfl rfl <| AB rfl <| NL <| Run.forget [(3, .int .u16 _), (20, .bool _)] ⟨rfl, rfl, trivial⟩ fun f => run_cond_dec rfl (fun g9 => ?_) (fun g9 => ?_)
 · skip
   refine SR <| AS rfl <| NL <| run_ret1 Try.func73 rfl (TP (v := str _) rfl) ?_
   subst g9
   exact ⟨congrArg str (by decide +kernel), hst.pure⟩
 refine SR <| CN <| Op1.eql rfl rfl <| AB rfl <| NL <| run_cond_dec rfl (fun g10 => ?_) (fun g10 => ?_)
 · skip
   refine SR <| AS rfl <| NL <| run_ret1 Try.func73 rfl (TP (v := str _) rfl) ?_
   subst g10
   exact ⟨congrArg str (by decide +kernel), hst.pure⟩
 refine SR <| CN <| Op1.eql rfl rfl <| AB rfl <| NL <| run_cond_dec rfl (fun g11 => ?_) (fun g11 => ?_)
 · skip
   refine SR <| AS rfl <| NL <| run_ret1 Try.func73 rfl (TP (v := str _) rfl) ?_
   subst g11
   exact ⟨congrArg str (by decide +kernel), hst.pure⟩
 refine SR <| CN <| Op1.eql rfl rfl <| AB rfl <| NL <| run_cond_dec rfl (fun g12 => ?_) (fun g12 => ?_)
 · skip
   refine SR <| AS rfl <| NL <| run_ret1 Try.func73 rfl (TP (v := str _) rfl) ?_
   subst g12
   exact ⟨congrArg str (by decide +kernel), hst.pure⟩
 refine SR <| CN <| Op1.eql rfl rfl <| AB rfl <| NL <| run_cond_dec rfl (fun g13 => ?_) (fun g13 => ?_)
 · skip
   refine SR <| AS rfl <| NL <| run_ret1 Try.func73 rfl (TP (v := str _) rfl) ?_
   subst g13
   exact ⟨congrArg str (by decide +kernel), hst.pure⟩
 refine SR <| CN <| Op1.eql rfl rfl <| AB rfl <| NL <| run_cond_dec rfl (fun g14 => ?_) (fun g14 => ?_)
 · skip
   refine SR <| AS rfl <| NL <| run_ret1 Try.func73 rfl (TP (v := str _) rfl) ?_
   subst g14
   exact ⟨congrArg str (by decide +kernel), hst.pure⟩
 refine SR <| CN <| Op1.eql rfl rfl <| AB rfl <| NL <| run_cond_dec rfl (fun g15 => ?_) (fun g15 => ?_)
 · skip
   refine SR <| AS rfl <| NL <| run_ret1 Try.func73 rfl (TP (v := str _) rfl) ?_
   subst g15
   exact ⟨congrArg str (by decide +kernel), hst.pure⟩
 refine SR <| CN <| Op1.eql rfl rfl <| AB rfl <| NL <| run_cond_dec rfl (fun g16 => ?_) (fun g16 => ?_)
 · skip
   refine SR <| AS rfl <| NL <| run_ret1 Try.func73 rfl (TP (v := str _) rfl) ?_
   subst g16
   exact ⟨congrArg str (by decide +kernel), hst.pure⟩
 refine SR <| CN <| Op1.eql rfl rfl <| AB rfl <| NL <| run_cond_dec rfl (fun g17 => ?_) (fun g17 => ?_)
 · skip
   refine SR <| AS rfl <| NL <| run_ret1 Try.func73 rfl (TP (v := str _) rfl) ?_
   subst g17
   exact ⟨congrArg str (by decide +kernel), hst.pure⟩
 refine SR <| CN <| Op1.eql rfl rfl <| AB rfl <| NL <| run_cond_dec rfl (fun g18 => ?_) (fun g18 => ?_)
 · skip
   refine SR <| AS rfl <| NL <| run_ret1 Try.func73 rfl (TP (v := str _) rfl) ?_
   subst g18
   exact ⟨congrArg str (by decide +kernel), hst.pure⟩
 refine SR <| CN <| Op1.eql rfl rfl <| AB rfl <| NL <| Run.forget [(3, .int .u16 _), (40, .bool _)] ⟨rfl, rfl, trivial⟩ fun f => run_cond_dec rfl (fun g19 => ?_) (fun g19 => ?_)
 · skip
   refine SR <| AS rfl <| NL <| run_ret1 Try.func73 rfl (TP (v := str _) rfl) ?_
   subst g19
   exact ⟨congrArg str (by decide +kernel), hst.pure⟩
 refine SR <| CN <| Op1.eql rfl rfl <| AB rfl <| NL <| run_cond_dec rfl (fun g20 => ?_) (fun g20 => ?_)
 · skip
   refine SR <| AS rfl <| NL <| run_ret1 Try.func73 rfl (TP (v := str _) rfl) ?_
   subst g20
   exact ⟨congrArg str (by decide +kernel), hst.pure⟩
 refine SR <| CN <| Op1.eql rfl rfl <| AB rfl <| NL <| run_cond_dec rfl (fun g21 => ?_) (fun g21 => ?_)
 · skip
   refine SR <| AS rfl <| NL <| run_ret1 Try.func73 rfl (TP (v := str _) rfl) ?_
   subst g21
   exact ⟨congrArg str (by decide +kernel), hst.pure⟩
 refine SR <| CN <| Op1.eql rfl rfl <| AB rfl <| NL <| run_cond_dec rfl (fun g22 => ?_) (fun g22 => ?_)
 · skip
   refine SR <| AS rfl <| NL <| run_ret1 Try.func73 rfl (TP (v := str _) rfl) ?_
   subst g22
   exact ⟨congrArg str (by decide +kernel), hst.pure⟩
 refine SR <| CN <| Op1.eql rfl rfl <| AB rfl <| NL <| run_cond_dec rfl (fun g23 => ?_) (fun g23 => ?_)
 · skip
   refine SR <| AS rfl <| NL <| run_ret1 Try.func73 rfl (TP (v := str _) rfl) ?_
   subst g23
   exact ⟨congrArg str (by decide +kernel), hst.pure⟩
 refine SR <| CN <| Op1.eql rfl rfl <| AB rfl <| NL <| run_cond_dec rfl (fun g24 => ?_) (fun g24 => ?_)
 · skip
   refine SR <| AS rfl <| NL <| run_ret1 Try.func73 rfl (TP (v := str _) rfl) ?_
   subst g24
   exact ⟨congrArg str (by decide +kernel), hst.pure⟩
 refine SR <| CN <| Op1.eql rfl rfl <| AB rfl <| NL <| run_cond_dec rfl (fun g25 => ?_) (fun g25 => ?_)
 · skip
   refine SR <| AS rfl <| NL <| run_ret1 Try.func73 rfl (TP (v := str _) rfl) ?_
   subst g25
   exact ⟨congrArg str (by decide +kernel), hst.pure⟩
 refine SR <| CN <| Op1.eql rfl rfl <| AB rfl <| NL <| run_cond_dec rfl (fun g26 => ?_) (fun g26 => ?_)
 · skip
   refine SR <| AS rfl <| NL <| run_ret1 Try.func73 rfl (TP (v := str _) rfl) ?_
   subst g26
   exact ⟨congrArg str (by decide +kernel), hst.pure⟩
 refine SR <| CN <| Op1.eql rfl rfl <| AB rfl <| NL <| run_cond_dec rfl (fun g27 => ?_) (fun g27 => ?_)
 · skip
   refine SR <| AS rfl <| NL <| run_ret1 Try.func73 rfl (TP (v := str _) rfl) ?_
   subst g27
   exact ⟨congrArg str (by decide +kernel), hst.pure⟩
 refine SR <| CN <| Op1.eql rfl rfl <| AB rfl <| NL <| run_cond_dec rfl (fun g28 => ?_) (fun g28 => ?_)
 · skip
   refine SR <| AS rfl <| NL <| run_ret1 Try.func73 rfl (TP (v := str _) rfl) ?_
   subst g28
   exact ⟨congrArg str (by decide +kernel), hst.pure⟩
 refine SR <| CN <| Op1.eql rfl rfl <| AB rfl <| NL <| Run.forget [(3, .int .u16 _), (60, .bool _)] ⟨rfl, rfl, trivial⟩ fun f => run_cond_dec rfl (fun g29 => ?_) (fun g29 => ?_)
 · skip
   refine SR <| AS rfl <| NL <| run_ret1 Try.func73 rfl (TP (v := str _) rfl) ?_
   subst g29
   exact ⟨congrArg str (by decide +kernel), hst.pure⟩
 refine SR <| CN <| Op1.eql rfl rfl <| AB rfl <| NL <| run_cond_dec rfl (fun g30 => ?_) (fun g30 => ?_)
 · skip
   refine SR <| AS rfl <| NL <| run_ret1 Try.func73 rfl (TP (v := str _) rfl) ?_
   subst g30
   exact ⟨congrArg str (by decide +kernel), hst.pure⟩
 refine SR <| CN <| Op1.eql rfl rfl <| AB rfl <| NL <| run_cond_dec rfl (fun g31 => ?_) (fun g31 => ?_)
 · skip
   refine SR <| AS rfl <| NL <| run_ret1 Try.func73 rfl (TP (v := str _) rfl) ?_
   subst g31
   exact ⟨congrArg str (by decide +kernel), hst.pure⟩
 refine run_skip <| run_inBlock <| SR <| AS rfl <| NL <| run_ret1 Try.func73 rfl (TP (v := str _) rfl) ?_
 exact ⟨congrArg str (look_none (by simp only [firstT, List.forall_mem_cons]; exact ⟨g1, g2, g3, g4, g5, g6, g7, g8, g9, g10, g11, g12, g13, g14, g15, g16, g17, g18, g19, g20, g21, g22, g23, g24, g25, g26, g27, g28, g29, g30, g31, fun _ h => absurd h List.not_mem_nil⟩)).symm, hst.pure⟩
theorem R5gr_second (op : Int) (w : World) : Ret Try.prog 74 #[.int .u16 op] w (fun v w' => v = str (look secondT op) ∧ St w NoM [] [] w') := by
 refine Ret.enter (args := [.int .u16 op]) Try.func74 rfl rfl rfl ?_
 have hst := St.init w
 refine SR <| AS rfl <| NL <| SQ <| SR <| MH rfl <| NL <| run_block <| SR <| CN <| Op1.eql rfl rfl <| AB rfl <| NL ?_
 refine run_cond_dec rfl (fun g1 => ?_) (fun g1 => ?_)
 · skip
   refine SR <| AS rfl <| NL <| run_ret1 Try.func74 rfl (TP (v := str _) rfl) ?_
   subst g1
   exact ⟨congrArg str (by decide +kernel), hst.pure⟩
 refine SR <| CN <| Op1.eql rfl rfl <| AB rfl <| NL <| run_cond_dec rfl (fun g2 => ?_) (fun g2 => ?_)
 · skip
   refine SR <| AS rfl <| NL <| run_ret1 Try.func74 rfl (TP (v := str _) rfl) ?_
   subst g2
   exact ⟨congrArg str (by decide +kernel), hst.pure⟩
 refine SR <| CN <| Op1.eql rfl rfl <| AB rfl <| NL <| run_cond_dec rfl (fun g3 => ?_) (fun g3 => ?_)
 · skip
   refine SR <| AS rfl <| NL <| run_ret1 Try.func74 rfl (TP (v := str _) rfl) ?_
   subst g3
   exact ⟨congrArg str (by decide +kernel), hst.pure⟩
 refine SR <| CN <| Op1.eql rfl rfl <| AB rfl <| NL <| run_cond_dec rfl (fun g4 => ?_) (fun g4 => ?_)
 · skip
   refine SR <| AS rfl <| NL <| run_ret1 Try.func74 rfl (TP (v := str _) rfl) ?_
   subst g4
   exact ⟨congrArg str (by decide +kernel), hst.pure⟩
 refine SR <| CN <| Op1.eql rfl rfl <| AB rfl <| NL <| run_cond_dec rfl (fun g5 => ?_) (fun g5 => ?_)
 · skip
   refine SR <| AS rfl <| NL <| run_ret1 Try.func74 rfl (TP (v := str _) rfl) ?_
   subst g5
   exact ⟨congrArg str (by decide +kernel), hst.pure⟩
 refine SR <| CN <| Op1.eql rfl rfl <| AB rfl <| NL <| run_cond_dec rfl (fun g6 => ?_) (fun g6 => ?_)
 · skip
   refine SR <| AS rfl <| NL <| run_ret1 Try.func74 rfl (TP (v := str _) rfl) ?_
   subst g6
   exact ⟨congrArg str (by decide +kernel), hst.pure⟩
 refine SR <| CN <| Op1.eql rfl rfl <| AB rfl <| NL <| run_cond_dec rfl (fun g7 => ?_) (fun g7 => ?_)
 · skip
   refine SR <| AS rfl <| NL <| run_ret1 Try.func74 rfl (TP (v := str _) rfl) ?_
   subst g7
   exact ⟨congrArg str (by decide +kernel), hst.pure⟩
 refine SR <| CN <| Op1.eql rfl rfl <| AB rfl <| NL <| run_cond_dec rfl (fun g8 => ?_) (fun g8 => ?_)
 · skip
   refine SR <| AS rfl <| NL <| run_ret1 Try.func74 rfl (TP (v := str _) rfl) ?_
   subst g8
   exact ⟨congrArg str (by decide +kernel), hst.pure⟩
 refine SR <| CN <| Op1.eql rfl rfl <| AB rfl <| NL <| Run.forget [(3, .int .u16 _), (20, .bool _)] ⟨rfl, rfl, trivial⟩ fun f => run_cond_dec rfl (fun g9 => ?_) (fun g9 => ?_)
 · skip
   refine SR <| AS rfl <| NL <| run_ret1 Try.func74 rfl (TP (v := str _) rfl) ?_
   subst g9
   exact ⟨congrArg str (by decide +kernel), hst.pure⟩
 refine SR <| CN <| Op1.eql rfl rfl <| AB rfl <| NL <| run_cond_dec rfl (fun g10 => ?_) (fun g10 => ?_)
 · skip
   refine SR <| AS rfl <| NL <| run_ret1 Try.func74 rfl (TP (v := str _) rfl) ?_
   subst g10
   exact ⟨congrArg str (by decide +kernel), hst.pure⟩
 refine SR <| CN <| Op1.eql rfl rfl <| AB rfl <| NL <| run_cond_dec rfl (fun g11 => ?_) (fun g11 => ?_)
 · skip
   refine SR <| AS rfl <| NL <| run_ret1 Try.func74 rfl (TP (v := str _) rfl) ?_
   subst g11
   exact ⟨congrArg str (by decide +kernel), hst.pure⟩
 refine SR <| CN <| Op1.eql rfl rfl <| AB rfl <| NL <| run_cond_dec rfl (fun g12 => ?_) (fun g12 => ?_)
 · skip
   refine SR <| AS rfl <| NL <| run_ret1 Try.func74 rfl (TP (v := str _) rfl) ?_
   subst g12
   exact ⟨congrArg str (by decide +kernel), hst.pure⟩
 refine SR <| CN <| Op1.eql rfl rfl <| AB rfl <| NL <| run_cond_dec rfl (fun g13 => ?_) (fun g13 => ?_)
 · skip
   refine SR <| AS rfl <| NL <| run_ret1 Try.func74 rfl (TP (v := str _) rfl) ?_
   subst g13
   exact ⟨congrArg str (by decide +kernel), hst.pure⟩
 refine SR <| CN <| Op1.eql rfl rfl <| AB rfl <| NL <| run_cond_dec rfl (fun g14 => ?_) (fun g14 => ?_)
 · skip
   refine SR <| AS rfl <| NL <| run_ret1 Try.func74 rfl (TP (v := str _) rfl) ?_
   subst g14
   exact ⟨congrArg str (by decide +kernel), hst.pure⟩
 refine SR <| CN <| Op1.eql rfl rfl <| AB rfl <| NL <| run_cond_dec rfl (fun g15 => ?_) (fun g15 => ?_)
 · skip
   refine SR <| AS rfl <| NL <| run_ret1 Try.func74 rfl (TP (v := str _) rfl) ?_
   subst g15
   exact ⟨congrArg str (by decide +kernel), hst.pure⟩
 refine SR <| CN <| Op1.eql rfl rfl <| AB rfl <| NL <| run_cond_dec rfl (fun g16 => ?_) (fun g16 => ?_)
 · skip
   refine SR <| AS rfl <| NL <| run_ret1 Try.func74 rfl (TP (v := str _) rfl) ?_
   subst g16
   exact ⟨congrArg str (by decide +kernel), hst.pure⟩
 refine SR <| CN <| Op1.eql rfl rfl <| AB rfl <| NL <| run_cond_dec rfl (fun g17 => ?_) (fun g17 => ?_)
 · skip
   refine SR <| AS rfl <| NL <| run_ret1 Try.func74 rfl (TP (v := str _) rfl) ?_
   subst g17
   exact ⟨congrArg str (by decide +kernel), hst.pure⟩
 refine SR <| CN <| Op1.eql rfl rfl <| AB rfl <| NL <| run_cond_dec rfl (fun g18 => ?_) (fun g18 => ?_)
 · skip
   refine SR <| AS rfl <| NL <| run_ret1 Try.func74 rfl (TP (v := str _) rfl) ?_
   subst g18
   exact ⟨congrArg str (by decide +kernel), hst.pure⟩
 refine SR <| CN <| Op1.eql rfl rfl <| AB rfl <| NL <| Run.forget [(3, .int .u16 _), (40, .bool _)] ⟨rfl, rfl, trivial⟩ fun f => run_cond_dec rfl (fun g19 => ?_) (fun g19 => ?_)
 · skip
   refine SR <| AS rfl <| NL <| run_ret1 Try.func74 rfl (TP (v := str _) rfl) ?_
   subst g19
   exact ⟨congrArg str (by decide +kernel), hst.pure⟩
 refine SR <| CN <| Op1.eql rfl rfl <| AB rfl <| NL <| run_cond_dec rfl (fun g20 => ?_) (fun g20 => ?_)
 · skip
   refine SR <| AS rfl <| NL <| run_ret1 Try.func74 rfl (TP (v := str _) rfl) ?_
   subst g20
   exact ⟨congrArg str (by decide +kernel), hst.pure⟩
 refine SR <| CN <| Op1.eql rfl rfl <| AB rfl <| NL <| run_cond_dec rfl (fun g21 => ?_) (fun g21 => ?_)
 · skip
   refine SR <| AS rfl <| NL <| run_ret1 Try.func74 rfl (TP (v := str _) rfl) ?_
   subst g21
   exact ⟨congrArg str (by decide +kernel), hst.pure⟩
 refine SR <| CN <| Op1.eql rfl rfl <| AB rfl <| NL <| run_cond_dec rfl (fun g22 => ?_) (fun g22 => ?_)
 · skip
   refine SR <| AS rfl <| NL <| run_ret1 Try.func74 rfl (TP (v := str _) rfl) ?_
   subst g22
   exact ⟨congrArg str (by decide +kernel), hst.pure⟩
 refine SR <| CN <| Op1.eql rfl rfl <| AB rfl <| NL <| run_cond_dec rfl (fun g23 => ?_) (fun g23 => ?_)
 · skip
   refine SR <| AS rfl <| NL <| run_ret1 Try.func74 rfl (TP (v := str _) rfl) ?_
   subst g23
   exact ⟨congrArg str (by decide +kernel), hst.pure⟩
 refine SR <| CN <| Op1.eql rfl rfl <| AB rfl <| NL <| run_cond_dec rfl (fun g24 => ?_) (fun g24 => ?_)
 · skip
   refine SR <| AS rfl <| NL <| run_ret1 Try.func74 rfl (TP (v := str _) rfl) ?_
   subst g24
   exact ⟨congrArg str (by decide +kernel), hst.pure⟩
 refine SR <| CN <| Op1.eql rfl rfl <| AB rfl <| NL <| run_cond_dec rfl (fun g25 => ?_) (fun g25 => ?_)
 · skip
   refine SR <| AS rfl <| NL <| run_ret1 Try.func74 rfl (TP (v := str _) rfl) ?_
   subst g25
   exact ⟨congrArg str (by decide +kernel), hst.pure⟩
 refine SR <| CN <| Op1.eql rfl rfl <| AB rfl <| NL <| run_cond_dec rfl (fun g26 => ?_) (fun g26 => ?_)
 · skip
   refine SR <| AS rfl <| NL <| run_ret1 Try.func74 rfl (TP (v := str _) rfl) ?_
   subst g26
   exact ⟨congrArg str (by decide +kernel), hst.pure⟩
 refine SR <| CN <| Op1.eql rfl rfl <| AB rfl <| NL <| run_cond_dec rfl (fun g27 => ?_) (fun g27 => ?_)
 · skip
   refine SR <| AS rfl <| NL <| run_ret1 Try.func74 rfl (TP (v := str _) rfl) ?_
   subst g27
   exact ⟨congrArg str (by decide +kernel), hst.pure⟩
 refine SR <| CN <| Op1.eql rfl rfl <| AB rfl <| NL <| run_cond_dec rfl (fun g28 => ?_) (fun g28 => ?_)
 · skip
   refine SR <| AS rfl <| NL <| run_ret1 Try.func74 rfl (TP (v := str _) rfl) ?_
   subst g28
   exact ⟨congrArg str (by decide +kernel), hst.pure⟩
 refine SR <| CN <| Op1.eql rfl rfl <| AB rfl <| NL <| Run.forget [(3, .int .u16 _), (60, .bool _)] ⟨rfl, rfl, trivial⟩ fun f => run_cond_dec rfl (fun g29 => ?_) (fun g29 => ?_)
 · skip
   refine SR <| AS rfl <| NL <| run_ret1 Try.func74 rfl (TP (v := str _) rfl) ?_
   subst g29
   exact ⟨congrArg str (by decide +kernel), hst.pure⟩
 refine SR <| CN <| Op1.eql rfl rfl <| AB rfl <| NL <| run_cond_dec rfl (fun g30 => ?_) (fun g30 => ?_)
 · skip
   refine SR <| AS rfl <| NL <| run_ret1 Try.func74 rfl (TP (v := str _) rfl) ?_
   subst g30
   exact ⟨congrArg str (by decide +kernel), hst.pure⟩
 refine SR <| CN <| Op1.eql rfl rfl <| AB rfl <| NL <| run_cond_dec rfl (fun g31 => ?_) (fun g31 => ?_)
 · skip
   refine SR <| AS rfl <| NL <| run_ret1 Try.func74 rfl (TP (v := str _) rfl) ?_
   subst g31
   exact ⟨congrArg str (by decide +kernel), hst.pure⟩
 refine run_skip <| run_inBlock <| SR <| AS rfl <| NL <| run_ret1 Try.func74 rfl (TP (v := str _) rfl) ?_
 exact ⟨congrArg str (look_none (by simp only [secondT, List.forall_mem_cons]; exact ⟨g1, g2, g3, g4, g5, g6, g7, g8, g9, g10, g11, g12, g13, g14, g15, g16, g17, g18, g19, g20, g21, g22, g23, g24, g25, g26, g27, g28, g29, g30, g31, fun _ h => absurd h List.not_mem_nil⟩)).symm, hst.pure⟩
theorem R5gr_third (op : Int) (w : World) : Ret Try.prog 75 #[.int .u16 op] w (fun v w' => v = str (look thirdT op) ∧ St w NoM [] [] w') := by
 refine Ret.enter (args := [.int .u16 op]) Try.func75 rfl rfl rfl ?_
 have hst := St.init w
 refine SR <| AS rfl <| NL <| SQ <| SR <| MH rfl <| NL <| run_block <| SR <| CN <| Op1.eql rfl rfl <| AB rfl <| NL ?_
 refine run_cond_dec rfl (fun g1 => ?_) (fun g1 => ?_)
 · skip
   refine SR <| AS rfl <| NL <| run_ret1 Try.func75 rfl (TP (v := str _) rfl) ?_
   subst g1
   exact ⟨congrArg str (by decide +kernel), hst.pure⟩
 refine SR <| CN <| Op1.eql rfl rfl <| AB rfl <| NL <| run_cond_dec rfl (fun g2 => ?_) (fun g2 => ?_)
 · skip
   refine SR <| AS rfl <| NL <| run_ret1 Try.func75 rfl (TP (v := str _) rfl) ?_
   subst g2
   exact ⟨congrArg str (by decide +kernel), hst.pure⟩
 refine SR <| CN <| Op1.eql rfl rfl <| AB rfl <| NL <| run_cond_dec rfl (fun g3 => ?_) (fun g3 => ?_)
 · skip
   refine SR <| AS rfl <| NL <| run_ret1 Try.func75 rfl (TP (v := str _) rfl) ?_
   subst g3
   exact ⟨congrArg str (by decide +kernel), hst.pure⟩
 refine SR <| CN <| Op1.eql rfl rfl <| AB rfl <| NL <| run_cond_dec rfl (fun g4 => ?_) (fun g4 => ?_)
 · skip
   refine SR <| AS rfl <| NL <| run_ret1 Try.func75 rfl (TP (v := str _) rfl) ?_
   subst g4
   exact ⟨congrArg str (by decide +kernel), hst.pure⟩
 refine SR <| CN <| Op1.eql rfl rfl <| AB rfl <| NL <| run_cond_dec rfl (fun g5 => ?_) (fun g5 => ?_)
 · skip
   refine SR <| AS rfl <| NL <| run_ret1 Try.func75 rfl (TP (v := str _) rfl) ?_
   subst g5
   exact ⟨congrArg str (by decide +kernel), hst.pure⟩
 refine SR <| CN <| Op1.eql rfl rfl <| AB rfl <| NL <| run_cond_dec rfl (fun g6 => ?_) (fun g6 => ?_)
 · skip
   refine SR <| AS rfl <| NL <| run_ret1 Try.func75 rfl (TP (v := str _) rfl) ?_
   subst g6
   exact ⟨congrArg str (by decide +kernel), hst.pure⟩
 refine SR <| CN <| Op1.eql rfl rfl <| AB rfl <| NL <| run_cond_dec rfl (fun g7 => ?_) (fun g7 => ?_)
 · skip
   refine SR <| AS rfl <| NL <| run_ret1 Try.func75 rfl (TP (v := str _) rfl) ?_
   subst g7
   exact ⟨congrArg str (by decide +kernel), hst.pure⟩
 refine SR <| CN <| Op1.eql rfl rfl <| AB rfl <| NL <| run_cond_dec rfl (fun g8 => ?_) (fun g8 => ?_)
 · skip
   refine SR <| AS rfl <| NL <| run_ret1 Try.func75 rfl (TP (v := str _) rfl) ?_
   subst g8
   exact ⟨congrArg str (by decide +kernel), hst.pure⟩
 refine SR <| CN <| Op1.eql rfl rfl <| AB rfl <| NL <| Run.forget [(3, .int .u16 _), (20, .bool _)] ⟨rfl, rfl, trivial⟩ fun f => run_cond_dec rfl (fun g9 => ?_) (fun g9 => ?_)
 · skip
   refine SR <| AS rfl <| NL <| run_ret1 Try.func75 rfl (TP (v := str _) rfl) ?_
   subst g9
   exact ⟨congrArg str (by decide +kernel), hst.pure⟩
 refine SR <| CN <| Op1.eql rfl rfl <| AB rfl <| NL <| run_cond_dec rfl (fun g10 => ?_) (fun g10 => ?_)
 · skip
   refine SR <| AS rfl <| NL <| run_ret1 Try.func75 rfl (TP (v := str _) rfl) ?_
   subst g10
   exact ⟨congrArg str (by decide +kernel), hst.pure⟩
 refine SR <| CN <| Op1.eql rfl rfl <| AB rfl <| NL <| run_cond_dec rfl (fun g11 => ?_) (fun g11 => ?_)
 · skip
   refine SR <| AS rfl <| NL <| run_ret1 Try.func75 rfl (TP (v := str _) rfl) ?_
   subst g11
   exact ⟨congrArg str (by decide +kernel), hst.pure⟩
 refine SR <| CN <| Op1.eql rfl rfl <| AB rfl <| NL <| run_cond_dec rfl (fun g12 => ?_) (fun g12 => ?_)
 · skip
   refine SR <| AS rfl <| NL <| run_ret1 Try.func75 rfl (TP (v := str _) rfl) ?_
   subst g12
   exact ⟨congrArg str (by decide +kernel), hst.pure⟩
 refine SR <| CN <| Op1.eql rfl rfl <| AB rfl <| NL <| run_cond_dec rfl (fun g13 => ?_) (fun g13 => ?_)
 · skip
   refine SR <| AS rfl <| NL <| run_ret1 Try.func75 rfl (TP (v := str _) rfl) ?_
   subst g13
   exact ⟨congrArg str (by decide +kernel), hst.pure⟩
 refine SR <| CN <| Op1.eql rfl rfl <| AB rfl <| NL <| run_cond_dec rfl (fun g14 => ?_) (fun g14 => ?_)
 · skip
   refine SR <| AS rfl <| NL <| run_ret1 Try.func75 rfl (TP (v := str _) rfl) ?_
   subst g14
   exact ⟨congrArg str (by decide +kernel), hst.pure⟩
 refine SR <| CN <| Op1.eql rfl rfl <| AB rfl <| NL <| run_cond_dec rfl (fun g15 => ?_) (fun g15 => ?_)
 · skip
   refine SR <| AS rfl <| NL <| run_ret1 Try.func75 rfl (TP (v := str _) rfl) ?_
   subst g15
   exact ⟨congrArg str (by decide +kernel), hst.pure⟩
 refine SR <| CN <| Op1.eql rfl rfl <| AB rfl <| NL <| run_cond_dec rfl (fun g16 => ?_) (fun g16 => ?_)
 · skip
   refine SR <| AS rfl <| NL <| run_ret1 Try.func75 rfl (TP (v := str _) rfl) ?_
   subst g16
   exact ⟨congrArg str (by decide +kernel), hst.pure⟩
 refine SR <| CN <| Op1.eql rfl rfl <| AB rfl <| NL <| run_cond_dec rfl (fun g17 => ?_) (fun g17 => ?_)
 · skip
   refine SR <| AS rfl <| NL <| run_ret1 Try.func75 rfl (TP (v := str _) rfl) ?_
   subst g17
   exact ⟨congrArg str (by decide +kernel), hst.pure⟩
 refine SR <| CN <| Op1.eql rfl rfl <| AB rfl <| NL <| run_cond_dec rfl (fun g18 => ?_) (fun g18 => ?_)
 · skip
   refine SR <| AS rfl <| NL <| run_ret1 Try.func75 rfl (TP (v := str _) rfl) ?_
   subst g18
   exact ⟨congrArg str (by decide +kernel), hst.pure⟩
 refine SR <| CN <| Op1.eql rfl rfl <| AB rfl <| NL <| Run.forget [(3, .int .u16 _), (40, .bool _)] ⟨rfl, rfl, trivial⟩ fun f => run_cond_dec rfl (fun g19 => ?_) (fun g19 => ?_)
 · skip
   refine SR <| AS rfl <| NL <| run_ret1 Try.func75 rfl (TP (v := str _) rfl) ?_
   subst g19
   exact ⟨congrArg str (by decide +kernel), hst.pure⟩
 refine SR <| CN <| Op1.eql rfl rfl <| AB rfl <| NL <| run_cond_dec rfl (fun g20 => ?_) (fun g20 => ?_)
 · skip
   refine SR <| AS rfl <| NL <| run_ret1 Try.func75 rfl (TP (v := str _) rfl) ?_
   subst g20
   exact ⟨congrArg str (by decide +kernel), hst.pure⟩
 refine SR <| CN <| Op1.eql rfl rfl <| AB rfl <| NL <| run_cond_dec rfl (fun g21 => ?_) (fun g21 => ?_)
 · skip
   refine SR <| AS rfl <| NL <| run_ret1 Try.func75 rfl (TP (v := str _) rfl) ?_
   subst g21
   exact ⟨congrArg str (by decide +kernel), hst.pure⟩
 refine SR <| CN <| Op1.eql rfl rfl <| AB rfl <| NL <| run_cond_dec rfl (fun g22 => ?_) (fun g22 => ?_)
 · skip
   refine SR <| AS rfl <| NL <| run_ret1 Try.func75 rfl (TP (v := str _) rfl) ?_
   subst g22
   exact ⟨congrArg str (by decide +kernel), hst.pure⟩
 refine SR <| CN <| Op1.eql rfl rfl <| AB rfl <| NL <| run_cond_dec rfl (fun g23 => ?_) (fun g23 => ?_)
 · skip
   refine SR <| AS rfl <| NL <| run_ret1 Try.func75 rfl (TP (v := str _) rfl) ?_
   subst g23
   exact ⟨congrArg str (by decide +kernel), hst.pure⟩
 refine SR <| CN <| Op1.eql rfl rfl <| AB rfl <| NL <| run_cond_dec rfl (fun g24 => ?_) (fun g24 => ?_)
 · skip
   refine SR <| AS rfl <| NL <| run_ret1 Try.func75 rfl (TP (v := str _) rfl) ?_
   subst g24
   exact ⟨congrArg str (by decide +kernel), hst.pure⟩
 refine SR <| CN <| Op1.eql rfl rfl <| AB rfl <| NL <| run_cond_dec rfl (fun g25 => ?_) (fun g25 => ?_)
 · skip
   refine SR <| AS rfl <| NL <| run_ret1 Try.func75 rfl (TP (v := str _) rfl) ?_
   subst g25
   exact ⟨congrArg str (by decide +kernel), hst.pure⟩
 refine SR <| CN <| Op1.eql rfl rfl <| AB rfl <| NL <| run_cond_dec rfl (fun g26 => ?_) (fun g26 => ?_)
 · skip
   refine SR <| AS rfl <| NL <| run_ret1 Try.func75 rfl (TP (v := str _) rfl) ?_
   subst g26
   exact ⟨congrArg str (by decide +kernel), hst.pure⟩
 refine SR <| CN <| Op1.eql rfl rfl <| AB rfl <| NL <| run_cond_dec rfl (fun g27 => ?_) (fun g27 => ?_)
 · skip
   refine SR <| AS rfl <| NL <| run_ret1 Try.func75 rfl (TP (v := str _) rfl) ?_
   subst g27
   exact ⟨congrArg str (by decide +kernel), hst.pure⟩
 refine SR <| CN <| Op1.eql rfl rfl <| AB rfl <| NL <| run_cond_dec rfl (fun g28 => ?_) (fun g28 => ?_)
 · skip
   refine SR <| AS rfl <| NL <| run_ret1 Try.func75 rfl (TP (v := str _) rfl) ?_
   subst g28
   exact ⟨congrArg str (by decide +kernel), hst.pure⟩
 refine SR <| CN <| Op1.eql rfl rfl <| AB rfl <| NL <| Run.forget [(3, .int .u16 _), (60, .bool _)] ⟨rfl, rfl, trivial⟩ fun f => run_cond_dec rfl (fun g29 => ?_) (fun g29 => ?_)
 · skip
   refine SR <| AS rfl <| NL <| run_ret1 Try.func75 rfl (TP (v := str _) rfl) ?_
   subst g29
   exact ⟨congrArg str (by decide +kernel), hst.pure⟩
 refine SR <| CN <| Op1.eql rfl rfl <| AB rfl <| NL <| run_cond_dec rfl (fun g30 => ?_) (fun g30 => ?_)
 · skip
   refine SR <| AS rfl <| NL <| run_ret1 Try.func75 rfl (TP (v := str _) rfl) ?_
   subst g30
   exact ⟨congrArg str (by decide +kernel), hst.pure⟩
 refine SR <| CN <| Op1.eql rfl rfl <| AB rfl <| NL <| run_cond_dec rfl (fun g31 => ?_) (fun g31 => ?_)
 · skip
   refine SR <| AS rfl <| NL <| run_ret1 Try.func75 rfl (TP (v := str _) rfl) ?_
   subst g31
   exact ⟨congrArg str (by decide +kernel), hst.pure⟩
 refine run_skip <| run_inBlock <| SR <| AS rfl <| NL <| run_ret1 Try.func75 rfl (TP (v := str _) rfl) ?_
 exact ⟨congrArg str (look_none (by simp only [thirdT, List.forall_mem_cons]; exact ⟨g1, g2, g3, g4, g5, g6, g7, g8, g9, g10, g11, g12, g13, g14, g15, g16, g17, g18, g19, g20, g21, g22, g23, g24, g25, g26, g27, g28, g29, g30, g31, fun _ h => absurd h List.not_mem_nil⟩)).symm, hst.pure⟩
theorem R5gr_row (op : Int) (w : World) : Ret Try.prog 64 #[.int .u16 op] w (fun v w' => v = str (rowS op) ∧ St w NoM [] [] w') := by
 refine Ret.enter (args := [.int .u16 op]) Try.func64 rfl rfl rfl ?_
 have hst := St.init w
 refine SR <| AS rfl <| NL <| SQ <| run_block <| SR <| MH rfl <| CN <| Op1.leq rfl rfl <| AB rfl <| NL <| run_cond_dec rfl (fun g1 => ?_) (fun g1 => ?_)
 · skip
   refine SR <| MH rfl <| CN <| Op1.call1 (v1 := .int .u16 _) ent73 rfl rfl <| Ret.det (R5gr_first _ _) hst fun w hst => AS rfl <| NL <| run_ret1 Try.func64 rfl (TP (v := str _) rfl) <| ⟨congrArg str ?_, hst.pure⟩
   unfold rowS
   rw [if_pos g1]
 refine SR <| MH rfl <| CN <| Op1.leq rfl rfl <| AB rfl <| NL <| run_cond_dec rfl (fun g2 => ?_) (fun g2 => ?_)
 · skip
   refine SR <| MH rfl <| CN <| Op1.call1 (v1 := .int .u16 _) ent74 rfl rfl <| Ret.det (R5gr_second _ _) hst fun w hst => AS rfl <| NL <| run_ret1 Try.func64 rfl (TP (v := str _) rfl) <| ⟨congrArg str ?_, hst.pure⟩
   unfold rowS
   rw [if_neg g1, if_pos g2]
 refine run_skip <| run_inBlock <| SR <| MH rfl <| CN <| Op1.call1 (v1 := .int .u16 _) ent75 rfl rfl <| Ret.det (R5gr_third _ _) hst fun w hst => AS rfl <| NL <| run_ret1 Try.func64 rfl (TP (v := str _) rfl) <| ⟨congrArg str ?_, hst.pure⟩
 unfold rowS
 rw [if_neg g1, if_neg g2]
theorem R5gr_names (c : Int) (w : World) : Ret Try.prog 77 #[.int .u8 c] w (fun v w' => v = str (look namesT c) ∧ St w NoM [] [] w') := by
 refine Ret.enter (args := [.int .u8 c]) Try.func77 rfl rfl rfl ?_
 have hst := St.init w
 refine SR <| AS rfl <| NL <| SQ <| SR <| MC rfl <| NL <| run_block <| SR <| CN <| Op1.eql rfl rfl <| AB rfl <| NL ?_
 refine run_cond_dec rfl (fun g1 => ?_) (fun g1 => ?_)
 · skip
   refine SR <| AS rfl <| NL <| run_ret1 Try.func77 rfl (TP (v := str _) rfl) ?_
   subst g1
   exact ⟨congrArg str (by decide +kernel), hst.pure⟩
 refine SR <| CN <| Op1.eql rfl rfl <| AB rfl <| NL <| run_cond_dec rfl (fun g2 => ?_) (fun g2 => ?_)
 · skip
   refine SR <| AS rfl <| NL <| run_ret1 Try.func77 rfl (TP (v := str _) rfl) ?_
   subst g2
   exact ⟨congrArg str (by decide +kernel), hst.pure⟩
 refine SR <| CN <| Op1.eql rfl rfl <| AB rfl <| NL <| run_cond_dec rfl (fun g3 => ?_) (fun g3 => ?_)
 · skip
   refine SR <| AS rfl <| NL <| run_ret1 Try.func77 rfl (TP (v := str _) rfl) ?_
   subst g3
   exact ⟨congrArg str (by decide +kernel), hst.pure⟩
 refine SR <| CN <| Op1.eql rfl rfl <| AB rfl <| NL <| run_cond_dec rfl (fun g4 => ?_) (fun g4 => ?_)
 · skip
   refine SR <| AS rfl <| NL <| run_ret1 Try.func77 rfl (TP (v := str _) rfl) ?_
   subst g4
   exact ⟨congrArg str (by decide +kernel), hst.pure⟩
 refine SR <| CN <| Op1.eql rfl rfl <| AB rfl <| NL <| run_cond_dec rfl (fun g5 => ?_) (fun g5 => ?_)
 · skip
   refine SR <| AS rfl <| NL <| run_ret1 Try.func77 rfl (TP (v := str _) rfl) ?_
   subst g5
   exact ⟨congrArg str (by decide +kernel), hst.pure⟩
 refine SR <| CN <| Op1.eql rfl rfl <| AB rfl <| NL <| run_cond_dec rfl (fun g6 => ?_) (fun g6 => ?_)
 · skip
   refine SR <| AS rfl <| NL <| run_ret1 Try.func77 rfl (TP (v := str _) rfl) ?_
   subst g6
   exact ⟨congrArg str (by decide +kernel), hst.pure⟩
 refine SR <| CN <| Op1.eql rfl rfl <| AB rfl <| NL <| run_cond_dec rfl (fun g7 => ?_) (fun g7 => ?_)
 · skip
   refine SR <| AS rfl <| NL <| run_ret1 Try.func77 rfl (TP (v := str _) rfl) ?_
   subst g7
   exact ⟨congrArg str (by decide +kernel), hst.pure⟩
 refine SR <| CN <| Op1.eql rfl rfl <| AB rfl <| NL <| run_cond_dec rfl (fun g8 => ?_) (fun g8 => ?_)
 · skip
   refine SR <| AS rfl <| NL <| run_ret1 Try.func77 rfl (TP (v := str _) rfl) ?_
   subst g8
   exact ⟨congrArg str (by decide +kernel), hst.pure⟩
 refine SR <| CN <| Op1.eql rfl rfl <| AB rfl <| NL <| Run.forget [(3, .int .u8 _), (20, .bool _)] ⟨rfl, rfl, trivial⟩ fun f => run_cond_dec rfl (fun g9 => ?_) (fun g9 => ?_)
 · skip
   refine SR <| AS rfl <| NL <| run_ret1 Try.func77 rfl (TP (v := str _) rfl) ?_
   subst g9
   exact ⟨congrArg str (by decide +kernel), hst.pure⟩
 refine SR <| CN <| Op1.eql rfl rfl <| AB rfl <| NL <| run_cond_dec rfl (fun g10 => ?_) (fun g10 => ?_)
 · skip
   refine SR <| AS rfl <| NL <| run_ret1 Try.func77 rfl (TP (v := str _) rfl) ?_
   subst g10
   exact ⟨congrArg str (by decide +kernel), hst.pure⟩
 refine SR <| CN <| Op1.eql rfl rfl <| AB rfl <| NL <| run_cond_dec rfl (fun g11 => ?_) (fun g11 => ?_)
 · skip
   refine SR <| AS rfl <| NL <| run_ret1 Try.func77 rfl (TP (v := str _) rfl) ?_
   subst g11
   exact ⟨congrArg str (by decide +kernel), hst.pure⟩
 refine run_skip <| run_inBlock <| SR <| AS rfl <| NL <| run_ret1 Try.func77 rfl (TP (v := str _) rfl) ?_
 exact ⟨congrArg str (look_none (by simp only [namesT, List.forall_mem_cons]; exact ⟨g1, g2, g3, g4, g5, g6, g7, g8, g9, g10, g11, fun _ h => absurd h List.not_mem_nil⟩)).symm, hst.pure⟩
theorem R5flds_get {l : List Byts} {n : Nat} {a : Int} (ha : a = n) (hn : n < l.length) : (l.map str)[0 + a.toNat * 1]? = some (str (l.getD n [])) := by
 subst ha; simp [List.getD, hn]
theorem R5flds_set {l : List Byts} {n : Nat} {c : UInt8} (hn : n < l.length) : setSeg (l.map str) (0 + (n : Int).toNat * 1) [str (l.getD n [] ++ [UInt8.ofNat ((c.toNat : Int)).toNat])] = (l.modify n (· ++ [c])).map str := by
 simp only [setSeg, Int.toNat_natCast, Nat.mul_one, Nat.zero_add, UInt8.ofNat_toNat]
 apply List.ext_getElem
 · simp
 · intro j h1 h2
   simp only [List.length_map, List.length_modify] at h2
   by_cases hj : n = j
   · subst hj; simp [List.getElem_modify, List.getD, hn]
   · simp [List.getElem_modify, hj, List.getElem_set_ne hj]
theorem R5six {l : List Byts} (h : l.length = 6) : ∃ f0 f1 f2 f3 f4 f5, l = [f0, f1, f2, f3, f4, f5] := by
 match l, h with
 | [f0, f1, f2, f3, f4, f5], _ => exact ⟨f0, f1, f2, f3, f4, f5, rfl⟩
theorem R5gr_fields (s f0 f1 f2 f3 f4 f5 : Byts) (hok : rowOk s = true) (hf : fieldsS s = [f0, f1, f2, f3, f4, f5]) (w : World) : Ret Try.prog 65 #[str s] w (fun v w' => v = .agg #[str f0, str f1, str f2, str f3, str f4, str f5] ∧ St w NoM [] [] w') := by
 refine Ret.enter (args := [str s]) Try.func65 rfl rfl rfl ?_
 have hst := St.init w
 obtain ⟨hasc, h5, hlen, _, _⟩ := rowOk_spec hok
 refine SR <| CN <| Op1.alloc hst ty118 fun w b2 hst => NSR <| CN <| Op1.alloc hst ty118 fun w b3 hst => NSR <| AI rfl <| NL <| SQ <| SQ <| RG ?_
 refine MS rfl <| CN <| Op1.rangeS hst ty9 rfl fun w it8 hst => NL <| run_block <| run_loop <| Run.indW [(2, .pointer (some ⟨_, _, none⟩)), (3, .pointer (some ⟨_, _, none⟩)), (8, .pointer (some ⟨_, 0, none⟩))] ⟨rfl, rfl, rfl, trivial⟩ (fun (i : Nat) => [(4, .int .i64 ((fieldsF (s.take i)).1 : Int))]) (fun (i : Nat) => [Res.iter it8 s i, Res.row b3 118 ((fieldsF (s.take i)).2.map str)]) (fun (i : Nat) => i ≤ s.length) (fun (i : Nat) => s.length - i) (0) hst (Nat.zero_le _) ⟨rfl, trivial⟩ ?_
 intro i f w hst hJ ih1
 refine SQ <| RG ?_
 rcases Nat.lt_or_ge i s.length with g2 | g2
 · skip
   have hc := hasc _ (List.getElem_mem g2)
   have hstep := fieldsF_step g2
   have hat : (fieldsF (s.take (i + 1))).1 ≤ 5 := Nat.le_trans fieldsF_at h5
   have hat0 : (fieldsF (s.take i)).1 ≤ 5 := Nat.le_trans fieldsF_at h5
   have hsh : ((fieldsF (s.take i)).2.getD (fieldsF (s.take i)).1 []).length ≤ i := getD_short (fieldsF_short s i hJ)
   refine CN (Op1.nextS hst rfl (.here) (List.getElem?_eq_getElem g2) (hc) fun w hst => ?_)
   refine CN <| Op1.extract (v := .bool _) rfl rfl <| NL <| SQ <| run_cond_true (congrArg Value.bool (rfl : true = _)) <| run_skip <| run_block <| SR <| CN <| Op1.extract (v := .int .i32 _) rfl rfl <| CN <| Op1.assign (v := .int .i32 _) rfl <| NSR <| CN <| Op1.move (v := .int .i32 _) rfl <| CN (Op1.eql rfl rfl ?_)
   refine NL <| run_cond_dec rfl (fun g3 => ?_) (fun g3 => ?_)
   · skip
     refine RG <| MI rfl <| CN <| Op1.addN rfl rfl rfl (wrap_i64 (by omega) (by omega)) <| AI rfl <| NL <| run_inBlock <| run_inLoop ?_
     have hsp : fieldsF (s.take (i + 1)) = ((fieldsF (s.take i)).1 + 1, (fieldsF (s.take i)).2) := by rw [hstep]; unfold stepF; rw [if_pos (UInt8.toNat_inj.1 (by have : (32 : UInt8).toNat = 32 := rfl; omega))]
     exact ih1 (i + 1) _ w (by omega) (by (try dsimp only); rw [hsp]; exact hst) (by omega) ⟨rfl, rfl, rfl, trivial⟩ ⟨(congrArg (Value.int .i64) (by rw [hsp]; rfl)), trivial⟩
   refine RG <| MI rfl <| CN <| Op1.indexArr ty118 ty9 rfl rfl (by omega) (by omega) <| CN <| Op1.load1 (v := str _) ty9 rfl rfl (hst.cellL (.tail _ (.head _)) (R5flds_get rfl (by rw [fieldsF_len]; omega))) <| CN <| Op1.move (v := .int .i32 _) rfl <| CN <| Op1.runeStr ty21 ty9 rfl (by omega) (by omega) <| CN <| Op1.addS rfl rfl (by first | omega | (simp only [List.length_cons, List.length_nil, List.length_append]; omega) | (simp; omega)) <| CN <| Op1.indexArr ty118 ty9 rfl rfl (by omega) (by omega) <| CN <| Op1.storeAt (v := str _) hst ty9 rfl rfl rfl rfl rfl (.there (.here)) (by simp only [List.length_map, fieldsF_len, List.length_cons, List.length_nil]; omega) fun w hst => NL <| run_inBlock <| run_inLoop ?_
   have hsp : fieldsF (s.take (i + 1)) = ((fieldsF (s.take i)).1, (fieldsF (s.take i)).2.modify (fieldsF (s.take i)).1 (· ++ [s[i]])) := by rw [hstep]; unfold stepF; rw [if_neg (fun he => g3 (by rw [he]; rfl))]
   exact ih1 (i + 1) _ w (by omega) (by (try dsimp only); rw [hsp]; dsimp only; rw [← R5flds_set (by rw [fieldsF_len]; omega)]; exact hst) (by omega) ⟨rfl, rfl, rfl, trivial⟩ ⟨(congrArg (Value.int .i64) (by rw [hsp])), trivial⟩
 obtain rfl : i = s.length := by omega
 rw [List.take_length, show (fieldsF s).2 = [f0, f1, f2, f3, f4, f5] from hf] at hst
 dsimp only [List.map] at hst
 refine CN <| Op1.nextE hst rfl (.head _) g2 <| CN <| Op1.extract (v := .bool _) rfl rfl <| NL <| SQ <| run_cond_false (congrArg Value.bool (rfl : false = _)) <| run_exit (id := 0) rfl <| SR <| CN <| Op1.loadA (vs := [str _, str _, str _, str _, str _, str _]) ty118 rfl rfl rfl (cells_of_obj (n := 6) (hst.objL (.tail _ (.head _))) _ rfl) <| CN (SO (v := .agg #[str _, str _, str _, str _, str _, str _]) hst ty118 rfl rfl (.there (.there (.here))) fun w hst => ?_)
 refine NL <| run_ret1 Try.func65 rfl (RV.cellA (vs := [str _, str _, str _, str _, str _, str _]) rfl ty118 rfl rfl (cells_of_obj (n := 6) (hst.objL (.tail _ (.tail _ (.head _)))) _ rfl)) ?_
 exact ⟨rfl, hst.pure⟩
end Go.SK
namespace Go.SK
open Go Go.Proofs
theorem ty74 : TyF Try.prog 74 (.struct (fieldsOf Try.prog 74)) 8 80 [.int .u16 0, str [], .bool false, .bool false, str [], str [], .int .i64 0, .int .u8 0] := TyF.of (by kernel_rfl) (by kernel_rfl)
theorem stf74 : StructF Try.prog 74 [(0, 1), (1, 1), (2, 1), (3, 1), (4, 1), (5, 1), (6, 1), (7, 1)] := ⟨fieldsOf Try.prog 74, by kernel_rfl, fun w => by kernel_rfl⟩
theorem ent47 : Enters Try.prog 47 := ⟨Try.f47, _, Try.func47, by kernel_rfl, rfl⟩
theorem ent64 : Enters Try.prog 64 := ⟨Try.f64, _, Try.func64, by kernel_rfl, rfl⟩
theorem ent65 : Enters Try.prog 65 := ⟨Try.f65, _, Try.func65, by kernel_rfl, rfl⟩
theorem fld74_2 : FldF Try.prog 74 2 2 := FldF.of (n := 0) (by kernel_rfl)
theorem ty4 : TyF Try.prog 4 .bool 1 1 [.bool false] := TyF.of (by kernel_rfl) (by kernel_rfl)
theorem fld74_3 : FldF Try.prog 74 3 3 := FldF.of (n := 0) (by kernel_rfl)
theorem ty3 : TyF Try.prog 3 (.int .i64) 1 8 [.int .i64 0] := TyF.of (by kernel_rfl) (by kernel_rfl)
theorem fld74_6 : FldF Try.prog 74 6 6 := FldF.of (n := 0) (by kernel_rfl)
end Go.SK
