/-
  Steps of functions, plain law, and walks of functions: what the laws rest on.
-/
import Derived.Test.YtglmmdpeenckbaaGreatDoorSkG0a
set_option linter.unusedVariables false
set_option linter.unusedSimpArgs false
set_option linter.unusedSectionVars false
namespace Go.SK
abbrev Byts := List UInt8
def firstT : List (Int × Byts) := [(1, [79, 112, 85, 110, 100, 101, 102, 32, 84, 82, 32, 32, 32, 32, 55]),
  (3, [79, 112, 83, 111, 117, 114, 99, 101, 32, 32, 108, 110, 32, 32, 32, 52]),
  (5, [79, 112, 78, 97, 109, 101, 32, 32, 105, 115, 32, 32, 32, 53]),
  (6, [79, 112, 77, 101, 109, 98, 101, 114, 78, 97, 109, 101, 32, 32, 105, 110, 115, 32, 32, 32, 53]),
  (7, [79, 112, 83, 116, 114, 105, 110, 103, 32, 82, 32, 115, 32, 32, 32, 52]),
  (14, [79, 112, 77, 101, 109, 111, 114, 121, 77, 111, 100, 101, 108, 32, 32, 97, 109, 32, 32, 32, 49]),
  (15, [79, 112, 69, 110, 116, 114, 121, 80, 111, 105, 110, 116, 32, 32, 101, 105, 115, 32, 105, 32, 32, 50]),
  (16, [79, 112, 69, 120, 101, 99, 117, 116, 105, 111, 110, 77, 111, 100, 101, 32, 32, 105, 120, 32, 32, 32, 51]),
  (17, [79, 112, 67, 97, 112, 97, 98, 105, 108, 105, 116, 121, 32, 32, 107, 32, 32, 32, 48]),
  (19, [79, 112, 84, 121, 112, 101, 86, 111, 105, 100, 32, 82, 32, 32, 32, 32, 55]),
  (20, [79, 112, 84, 121, 112, 101, 66, 111, 111, 108, 32, 82, 32, 32, 32, 32, 55]),
  (21, [79, 112, 84, 121, 112, 101, 73, 110, 116, 32, 82, 32, 110, 110, 32, 32, 32, 55]),
  (23, [79, 112, 84, 121, 112, 101, 86, 101, 99, 116, 111, 114, 32, 82, 32, 105, 110, 32, 32, 32, 55]),
  (28, [79, 112, 84, 121, 112, 101, 65, 114, 114, 97, 121, 32, 82, 32, 105, 105, 32, 32, 32, 55]),
  (30, [79, 112, 84, 121, 112, 101, 83, 116, 114, 117, 99, 116, 32, 82, 32, 32, 105, 32, 32, 55]),
  (32, [79, 112, 84, 121, 112, 101, 80, 111, 105, 110, 116, 101, 114, 32, 82, 32, 99, 105, 32, 32, 32, 55]),
  (33, [79, 112, 84, 121, 112, 101, 70, 117, 110, 99, 116, 105, 111, 110, 32, 82, 32, 105, 32, 105, 32, 32, 55]),
  (41, [79, 112, 67, 111, 110, 115, 116, 97, 110, 116, 84, 114, 117, 101, 32, 84, 82, 32, 32, 32, 32, 55]),
  (42, [79, 112, 67, 111, 110, 115, 116, 97, 110, 116, 70, 97, 108, 115, 101, 32, 84, 82, 32, 32, 32, 32, 55]),
  (43, [79, 112, 67, 111, 110, 115, 116, 97, 110, 116, 32, 84, 82, 32, 110, 32, 32, 32, 55]),
  (44, [79, 112, 67, 111, 110, 115, 116, 97, 110, 116, 67, 111, 109, 112, 111, 115, 105, 116, 101, 32, 84, 82, 32, 32, 105, 32, 32, 55]),
  (46, [79, 112, 67, 111, 110, 115, 116, 97, 110, 116, 78, 117, 108, 108, 32, 84, 82, 32, 32, 32, 32, 55]),
  (54, [79, 112, 70, 117, 110, 99, 116, 105, 111, 110, 32, 84, 82, 32, 102, 105, 32, 32, 32, 56]),
  (55, [79, 112, 70, 117, 110, 99, 116, 105, 111, 110, 80, 97, 114, 97, 109, 101, 116, 101, 114, 32, 84, 82, 32, 32, 32, 32, 56]),
  (56, [79, 112, 70, 117, 110, 99, 116, 105, 111, 110, 69, 110, 100, 32, 32, 32, 32, 32, 56]),
  (57, [79, 112, 70, 117, 110, 99, 116, 105, 111, 110, 67, 97, 108, 108, 32, 84, 82, 32, 105, 32, 105, 32, 32, 56]),
  (59, [79, 112, 86, 97, 114, 105, 97, 98, 108, 101, 32, 84, 82, 32, 99, 32, 105, 32, 49, 32, 55]),
  (61, [79, 112, 76, 111, 97, 100, 32, 84, 82, 32, 105, 32, 32, 32, 56]),
  (62, [79, 112, 83, 116, 111, 114, 101, 32, 32, 105, 105, 32, 32, 32, 56]),
  (65, [79, 112, 65, 99, 99, 101, 115, 115, 67, 104, 97, 105, 110, 32, 84, 82, 32, 105, 32, 105, 32, 32, 56]),
  (71, [79, 112, 68, 101, 99, 111, 114, 97, 116, 101, 32, 32, 105, 100, 32, 110, 32, 32, 54])]
def secondT : List (Int × Byts) := [(77, [79, 112, 86, 101, 99, 116, 111, 114, 69, 120, 116, 114, 97, 99, 116, 68, 121, 110, 97, 109, 105, 99, 32, 84, 82, 32, 105, 105, 32, 32, 32, 56]),
  (78, [79, 112, 86, 101, 99, 116, 111, 114, 73, 110, 115, 101, 114, 116, 68, 121, 110, 97, 109, 105, 99, 32, 84, 82, 32, 105, 105, 105, 32, 32, 32, 56]),
  (79, [79, 112, 86, 101, 99, 116, 111, 114, 83, 104, 117, 102, 102, 108, 101, 32, 84, 82, 32, 105, 105, 32, 110, 32, 32, 56]),
  (80, [79, 112, 67, 111, 109, 112, 111, 115, 105, 116, 101, 67, 111, 110, 115, 116, 114, 117, 99, 116, 32, 84, 82, 32, 32, 105, 32, 32, 56]),
  (81, [79, 112, 67, 111, 109, 112, 111, 115, 105, 116, 101, 69, 120, 116, 114, 97, 99, 116, 32, 84, 82, 32, 105, 32, 110, 32, 32, 56]),
  (82, [79, 112, 67, 111, 109, 112, 111, 115, 105, 116, 101, 73, 110, 115, 101, 114, 116, 32, 84, 82, 32, 105, 105, 32, 110, 32, 32, 56]),
  (83, [79, 112, 67, 111, 112, 121, 79, 98, 106, 101, 99, 116, 32, 84, 82, 32, 105, 32, 32, 32, 56]),
  (124, [79, 112, 66, 105, 116, 99, 97, 115, 116, 32, 84, 82, 32, 105, 32, 32, 32, 56]),
  (126, [79, 112, 83, 78, 101, 103, 97, 116, 101, 32, 84, 82, 32, 105, 32, 32, 32, 56]),
  (128, [79, 112, 73, 65, 100, 100, 32, 84, 82, 32, 105, 105, 32, 32, 32, 56]),
  (130, [79, 112, 73, 83, 117, 98, 32, 84, 82, 32, 105, 105, 32, 32, 32, 56]),
  (132, [79, 112, 73, 77, 117, 108, 32, 84, 82, 32, 105, 105, 32, 32, 32, 56]),
  (134, [79, 112, 85, 68, 105, 118, 32, 84, 82, 32, 105, 105, 32, 32, 32, 56]),
  (135, [79, 112, 83, 68, 105, 118, 32, 84, 82, 32, 105, 105, 32, 32, 32, 56]),
  (137, [79, 112, 85, 77, 111, 100, 32, 84, 82, 32, 105, 105, 32, 32, 32, 56]),
  (138, [79, 112, 83, 82, 101, 109, 32, 84, 82, 32, 105, 105, 32, 32, 32, 56]),
  (139, [79, 112, 83, 77, 111, 100, 32, 84, 82, 32, 105, 105, 32, 32, 32, 56]),
  (149, [79, 112, 73, 65, 100, 100, 67, 97, 114, 114, 121, 32, 84, 82, 32, 105, 105, 32, 32, 32, 56]),
  (150, [79, 112, 73, 83, 117, 98, 66, 111, 114, 114, 111, 119, 32, 84, 82, 32, 105, 105, 32, 32, 32, 56]),
  (151, [79, 112, 85, 77, 117, 108, 69, 120, 116, 101, 110, 100, 101, 100, 32, 84, 82, 32, 105, 105, 32, 32, 32, 56]),
  (152, [79, 112, 83, 77, 117, 108, 69, 120, 116, 101, 110, 100, 101, 100, 32, 84, 82, 32, 105, 105, 32, 32, 32, 56]),
  (154, [79, 112, 65, 110, 121, 32, 84, 82, 32, 105, 32, 32, 32, 56]),
  (155, [79, 112, 65, 108, 108, 32, 84, 82, 32, 105, 32, 32, 32, 56]),
  (164, [79, 112, 76, 111, 103, 105, 99, 97, 108, 69, 113, 117, 97, 108, 32, 84, 82, 32, 105, 105, 32, 32, 32, 56]),
  (165, [79, 112, 76, 111, 103, 105, 99, 97, 108, 78, 111, 116, 69, 113, 117, 97, 108, 32, 84, 82, 32, 105, 105, 32, 32, 32, 56]),
  (166, [79, 112, 76, 111, 103, 105, 99, 97, 108, 79, 114, 32, 84, 82, 32, 105, 105, 32, 32, 32, 56]),
  (167, [79, 112, 76, 111, 103, 105, 99, 97, 108, 65, 110, 100, 32, 84, 82, 32, 105, 105, 32, 32, 32, 56]),
  (168, [79, 112, 76, 111, 103, 105, 99, 97, 108, 78, 111, 116, 32, 84, 82, 32, 105, 32, 32, 32, 56]),
  (169, [79, 112, 83, 101, 108, 101, 99, 116, 32, 84, 82, 32, 105, 105, 105, 32, 32, 32, 56]),
  (170, [79, 112, 73, 69, 113, 117, 97, 108, 32, 84, 82, 32, 105, 105, 32, 32, 32, 56]),
  (171, [79, 112, 73, 78, 111, 116, 69, 113, 117, 97, 108, 32, 84, 82, 32, 105, 105, 32, 32, 32, 56])]
def thirdT : List (Int × Byts) := [(172, [79, 112, 85, 71, 114, 101, 97, 116, 101, 114, 84, 104, 97, 110, 32, 84, 82, 32, 105, 105, 32, 32, 32, 56]),
  (173, [79, 112, 83, 71, 114, 101, 97, 116, 101, 114, 84, 104, 97, 110, 32, 84, 82, 32, 105, 105, 32, 32, 32, 56]),
  (174, [79, 112, 85, 71, 114, 101, 97, 116, 101, 114, 84, 104, 97, 110, 69, 113, 117, 97, 108, 32, 84, 82, 32, 105, 105, 32, 32, 32, 56]),
  (175, [79, 112, 83, 71, 114, 101, 97, 116, 101, 114, 84, 104, 97, 110, 69, 113, 117, 97, 108, 32, 84, 82, 32, 105, 105, 32, 32, 32, 56]),
  (176, [79, 112, 85, 76, 101, 115, 115, 84, 104, 97, 110, 32, 84, 82, 32, 105, 105, 32, 32, 32, 56]),
  (177, [79, 112, 83, 76, 101, 115, 115, 84, 104, 97, 110, 32, 84, 82, 32, 105, 105, 32, 32, 32, 56]),
  (178, [79, 112, 85, 76, 101, 115, 115, 84, 104, 97, 110, 69, 113, 117, 97, 108, 32, 84, 82, 32, 105, 105, 32, 32, 32, 56]),
  (179, [79, 112, 83, 76, 101, 115, 115, 84, 104, 97, 110, 69, 113, 117, 97, 108, 32, 84, 82, 32, 105, 105, 32, 32, 32, 56]),
  (194, [79, 112, 83, 104, 105, 102, 116, 82, 105, 103, 104, 116, 76, 111, 103, 105, 99, 97, 108, 32, 84, 82, 32, 105, 105, 32, 32, 32, 56]),
  (195, [79, 112, 83, 104, 105, 102, 116, 82, 105, 103, 104, 116, 65, 114, 105, 116, 104, 109, 101, 116, 105, 99, 32, 84, 82, 32, 105, 105, 32, 32, 32, 56]),
  (196, [79, 112, 83, 104, 105, 102, 116, 76, 101, 102, 116, 76, 111, 103, 105, 99, 97, 108, 32, 84, 82, 32, 105, 105, 32, 32, 32, 56]),
  (197, [79, 112, 66, 105, 116, 119, 105, 115, 101, 79, 114, 32, 84, 82, 32, 105, 105, 32, 32, 32, 56]),
  (198, [79, 112, 66, 105, 116, 119, 105, 115, 101, 88, 111, 114, 32, 84, 82, 32, 105, 105, 32, 32, 32, 56]),
  (199, [79, 112, 66, 105, 116, 119, 105, 115, 101, 65, 110, 100, 32, 84, 82, 32, 105, 105, 32, 32, 32, 56]),
  (200, [79, 112, 78, 111, 116, 32, 84, 82, 32, 105, 32, 32, 32, 56]),
  (201, [79, 112, 66, 105, 116, 70, 105, 101, 108, 100, 73, 110, 115, 101, 114, 116, 32, 84, 82, 32, 105, 105, 105, 105, 32, 32, 32, 56]),
  (202, [79, 112, 66, 105, 116, 70, 105, 101, 108, 100, 83, 69, 120, 116, 114, 97, 99, 116, 32, 84, 82, 32, 105, 105, 105, 32, 32, 32, 56]),
  (203, [79, 112, 66, 105, 116, 70, 105, 101, 108, 100, 85, 69, 120, 116, 114, 97, 99, 116, 32, 84, 82, 32, 105, 105, 105, 32, 32, 32, 56]),
  (204, [79, 112, 66, 105, 116, 82, 101, 118, 101, 114, 115, 101, 32, 84, 82, 32, 105, 32, 32, 32, 56]),
  (205, [79, 112, 66, 105, 116, 67, 111, 117, 110, 116, 32, 84, 82, 32, 105, 32, 32, 32, 56]),
  (245, [79, 112, 80, 104, 105, 32, 84, 82, 32, 32, 105, 105, 32, 32, 56]),
  (246, [79, 112, 76, 111, 111, 112, 77, 101, 114, 103, 101, 32, 32, 105, 105, 103, 32, 32, 32, 56]),
  (247, [79, 112, 83, 101, 108, 101, 99, 116, 105, 111, 110, 77, 101, 114, 103, 101, 32, 32, 105, 104, 32, 32, 32, 56]),
  (248, [79, 112, 76, 97, 98, 101, 108, 32, 82, 32, 32, 32, 32, 56]),
  (249, [79, 112, 66, 114, 97, 110, 99, 104, 32, 32, 105, 32, 32, 32, 56]),
  (250, [79, 112, 66, 114, 97, 110, 99, 104, 67, 111, 110, 100, 105, 116, 105, 111, 110, 97, 108, 32, 32, 105, 105, 105, 32, 32, 32, 56]),
  (251, [79, 112, 83, 119, 105, 116, 99, 104, 32, 32, 105, 105, 32, 110, 105, 32, 32, 56]),
  (252, [79, 112, 75, 105, 108, 108, 32, 32, 32, 32, 32, 56]),
  (253, [79, 112, 82, 101, 116, 117, 114, 110, 32, 32, 32, 32, 32, 56]),
  (254, [79, 112, 82, 101, 116, 117, 114, 110, 86, 97, 108, 117, 101, 32, 32, 105, 32, 32, 32, 56]),
  (255, [79, 112, 85, 110, 114, 101, 97, 99, 104, 97, 98, 108, 101, 32, 32, 32, 32, 32, 56])]
def namesT : List (Int × Byts) := [(107, [48, 32, 77, 97, 116, 114, 105, 120, 32, 49, 32, 83, 104, 97, 100, 101, 114, 32]),
  (97, [48, 32, 76, 111, 103, 105, 99, 97, 108, 32]),
  (109, [48, 32, 83, 105, 109, 112, 108, 101, 32, 49, 32, 71, 76, 83, 76, 52, 53, 48, 32]),
  (101, [48, 32, 86, 101, 114, 116, 101, 120, 32, 52, 32, 70, 114, 97, 103, 109, 101, 110, 116, 32]),
  (120, [55, 32, 79, 114, 105, 103, 105, 110, 85, 112, 112, 101, 114, 76, 101, 102, 116, 32]),
  (108, [48, 32, 85, 110, 107, 110, 111, 119, 110, 32, 49, 32, 69, 83, 83, 76, 32, 50, 32, 71, 76, 83, 76, 32]),
  (99, [49, 32, 73, 110, 112, 117, 116, 32, 51, 32, 79, 117, 116, 112, 117, 116, 32, 54, 32, 80, 114, 105, 118, 97, 116, 101, 32, 55, 32, 70, 117, 110, 99, 116, 105, 111, 110, 32]),
  (100, [48, 32, 82, 101, 108, 97, 120, 101, 100, 80, 114, 101, 99, 105, 115, 105, 111, 110, 32, 49, 49, 32, 66, 117, 105, 108, 116, 73, 110, 32, 49, 52, 32, 70, 108, 97, 116, 32, 51, 48, 32, 76, 111, 99, 97, 116, 105, 111, 110, 32]),
  (102, [48, 32, 78, 111, 110, 101, 32, 49, 32, 73, 110, 108, 105, 110, 101, 32, 50, 32, 68, 111, 110, 116, 73, 110, 108, 105, 110, 101, 32, 52, 32, 80, 117, 114, 101, 32, 56, 32, 67, 111, 110, 115, 116, 32]),
  (104, [48, 32, 78, 111, 110, 101, 32, 49, 32, 70, 108, 97, 116, 116, 101, 110, 32, 50, 32, 68, 111, 110, 116, 70, 108, 97, 116, 116, 101, 110, 32]),
  (103, [48, 32, 78, 111, 110, 101, 32, 49, 32, 85, 110, 114, 111, 108, 108, 32, 50, 32, 68, 111, 110, 116, 85, 110, 114, 111, 108, 108, 32])]
structure FormL where
  op : Int
  name : Byts
  ty : Bool
  res : Bool
  fixed : Byts
  rest : Byts
  most : Int
  part : Int
  deriving DecidableEq
def refT : List FormL := [⟨1, [79, 112, 85, 110, 100, 101, 102], true, true, [], [], 0, 7⟩,
  ⟨3, [79, 112, 83, 111, 117, 114, 99, 101], false, false, [108, 110], [], 0, 4⟩,
  ⟨5, [79, 112, 78, 97, 109, 101], false, false, [105, 115], [], 0, 5⟩,
  ⟨6, [79, 112, 77, 101, 109, 98, 101, 114, 78, 97, 109, 101], false, false, [105, 110, 115], [], 0, 5⟩,
  ⟨7, [79, 112, 83, 116, 114, 105, 110, 103], false, true, [115], [], 0, 4⟩,
  ⟨14, [79, 112, 77, 101, 109, 111, 114, 121, 77, 111, 100, 101, 108], false, false, [97, 109], [], 0, 1⟩,
  ⟨15, [79, 112, 69, 110, 116, 114, 121, 80, 111, 105, 110, 116], false, false, [101, 105, 115], [105], 0, 2⟩,
  ⟨16, [79, 112, 69, 120, 101, 99, 117, 116, 105, 111, 110, 77, 111, 100, 101], false, false, [105, 120], [], 0, 3⟩,
  ⟨17, [79, 112, 67, 97, 112, 97, 98, 105, 108, 105, 116, 121], false, false, [107], [], 0, 0⟩,
  ⟨19, [79, 112, 84, 121, 112, 101, 86, 111, 105, 100], false, true, [], [], 0, 7⟩,
  ⟨20, [79, 112, 84, 121, 112, 101, 66, 111, 111, 108], false, true, [], [], 0, 7⟩,
  ⟨21, [79, 112, 84, 121, 112, 101, 73, 110, 116], false, true, [110, 110], [], 0, 7⟩,
  ⟨23, [79, 112, 84, 121, 112, 101, 86, 101, 99, 116, 111, 114], false, true, [105, 110], [], 0, 7⟩,
  ⟨28, [79, 112, 84, 121, 112, 101, 65, 114, 114, 97, 121], false, true, [105, 105], [], 0, 7⟩,
  ⟨30, [79, 112, 84, 121, 112, 101, 83, 116, 114, 117, 99, 116], false, true, [], [105], 0, 7⟩,
  ⟨32, [79, 112, 84, 121, 112, 101, 80, 111, 105, 110, 116, 101, 114], false, true, [99, 105], [], 0, 7⟩,
  ⟨33, [79, 112, 84, 121, 112, 101, 70, 117, 110, 99, 116, 105, 111, 110], false, true, [105], [105], 0, 7⟩,
  ⟨41, [79, 112, 67, 111, 110, 115, 116, 97, 110, 116, 84, 114, 117, 101], true, true, [], [], 0, 7⟩,
  ⟨42, [79, 112, 67, 111, 110, 115, 116, 97, 110, 116, 70, 97, 108, 115, 101], true, true, [], [], 0, 7⟩,
  ⟨43, [79, 112, 67, 111, 110, 115, 116, 97, 110, 116], true, true, [110], [], 0, 7⟩,
  ⟨44, [79, 112, 67, 111, 110, 115, 116, 97, 110, 116, 67, 111, 109, 112, 111, 115, 105, 116, 101], true, true, [], [105], 0, 7⟩,
  ⟨46, [79, 112, 67, 111, 110, 115, 116, 97, 110, 116, 78, 117, 108, 108], true, true, [], [], 0, 7⟩,
  ⟨54, [79, 112, 70, 117, 110, 99, 116, 105, 111, 110], true, true, [102, 105], [], 0, 8⟩,
  ⟨55, [79, 112, 70, 117, 110, 99, 116, 105, 111, 110, 80, 97, 114, 97, 109, 101, 116, 101, 114], true, true, [], [], 0, 8⟩,
  ⟨56, [79, 112, 70, 117, 110, 99, 116, 105, 111, 110, 69, 110, 100], false, false, [], [], 0, 8⟩,
  ⟨57, [79, 112, 70, 117, 110, 99, 116, 105, 111, 110, 67, 97, 108, 108], true, true, [105], [105], 0, 8⟩,
  ⟨59, [79, 112, 86, 97, 114, 105, 97, 98, 108, 101], true, true, [99], [105], 1, 7⟩,
  ⟨61, [79, 112, 76, 111, 97, 100], true, true, [105], [], 0, 8⟩,
  ⟨62, [79, 112, 83, 116, 111, 114, 101], false, false, [105, 105], [], 0, 8⟩,
  ⟨65, [79, 112, 65, 99, 99, 101, 115, 115, 67, 104, 97, 105, 110], true, true, [105], [105], 0, 8⟩,
  ⟨71, [79, 112, 68, 101, 99, 111, 114, 97, 116, 101], false, false, [105, 100], [110], 0, 6⟩,
  ⟨77, [79, 112, 86, 101, 99, 116, 111, 114, 69, 120, 116, 114, 97, 99, 116, 68, 121, 110, 97, 109, 105, 99], true, true, [105, 105], [], 0, 8⟩,
  ⟨78, [79, 112, 86, 101, 99, 116, 111, 114, 73, 110, 115, 101, 114, 116, 68, 121, 110, 97, 109, 105, 99], true, true, [105, 105, 105], [], 0, 8⟩,
  ⟨79, [79, 112, 86, 101, 99, 116, 111, 114, 83, 104, 117, 102, 102, 108, 101], true, true, [105, 105], [110], 0, 8⟩,
  ⟨80, [79, 112, 67, 111, 109, 112, 111, 115, 105, 116, 101, 67, 111, 110, 115, 116, 114, 117, 99, 116], true, true, [], [105], 0, 8⟩,
  ⟨81, [79, 112, 67, 111, 109, 112, 111, 115, 105, 116, 101, 69, 120, 116, 114, 97, 99, 116], true, true, [105], [110], 0, 8⟩,
  ⟨82, [79, 112, 67, 111, 109, 112, 111, 115, 105, 116, 101, 73, 110, 115, 101, 114, 116], true, true, [105, 105], [110], 0, 8⟩,
  ⟨83, [79, 112, 67, 111, 112, 121, 79, 98, 106, 101, 99, 116], true, true, [105], [], 0, 8⟩,
  ⟨124, [79, 112, 66, 105, 116, 99, 97, 115, 116], true, true, [105], [], 0, 8⟩,
  ⟨126, [79, 112, 83, 78, 101, 103, 97, 116, 101], true, true, [105], [], 0, 8⟩,
  ⟨128, [79, 112, 73, 65, 100, 100], true, true, [105, 105], [], 0, 8⟩,
  ⟨130, [79, 112, 73, 83, 117, 98], true, true, [105, 105], [], 0, 8⟩,
  ⟨132, [79, 112, 73, 77, 117, 108], true, true, [105, 105], [], 0, 8⟩,
  ⟨134, [79, 112, 85, 68, 105, 118], true, true, [105, 105], [], 0, 8⟩,
  ⟨135, [79, 112, 83, 68, 105, 118], true, true, [105, 105], [], 0, 8⟩,
  ⟨137, [79, 112, 85, 77, 111, 100], true, true, [105, 105], [], 0, 8⟩,
  ⟨138, [79, 112, 83, 82, 101, 109], true, true, [105, 105], [], 0, 8⟩,
  ⟨139, [79, 112, 83, 77, 111, 100], true, true, [105, 105], [], 0, 8⟩,
  ⟨149, [79, 112, 73, 65, 100, 100, 67, 97, 114, 114, 121], true, true, [105, 105], [], 0, 8⟩,
  ⟨150, [79, 112, 73, 83, 117, 98, 66, 111, 114, 114, 111, 119], true, true, [105, 105], [], 0, 8⟩,
  ⟨151, [79, 112, 85, 77, 117, 108, 69, 120, 116, 101, 110, 100, 101, 100], true, true, [105, 105], [], 0, 8⟩,
  ⟨152, [79, 112, 83, 77, 117, 108, 69, 120, 116, 101, 110, 100, 101, 100], true, true, [105, 105], [], 0, 8⟩,
  ⟨154, [79, 112, 65, 110, 121], true, true, [105], [], 0, 8⟩,
  ⟨155, [79, 112, 65, 108, 108], true, true, [105], [], 0, 8⟩,
  ⟨164, [79, 112, 76, 111, 103, 105, 99, 97, 108, 69, 113, 117, 97, 108], true, true, [105, 105], [], 0, 8⟩,
  ⟨165, [79, 112, 76, 111, 103, 105, 99, 97, 108, 78, 111, 116, 69, 113, 117, 97, 108], true, true, [105, 105], [], 0, 8⟩,
  ⟨166, [79, 112, 76, 111, 103, 105, 99, 97, 108, 79, 114], true, true, [105, 105], [], 0, 8⟩,
  ⟨167, [79, 112, 76, 111, 103, 105, 99, 97, 108, 65, 110, 100], true, true, [105, 105], [], 0, 8⟩,
  ⟨168, [79, 112, 76, 111, 103, 105, 99, 97, 108, 78, 111, 116], true, true, [105], [], 0, 8⟩,
  ⟨169, [79, 112, 83, 101, 108, 101, 99, 116], true, true, [105, 105, 105], [], 0, 8⟩,
  ⟨170, [79, 112, 73, 69, 113, 117, 97, 108], true, true, [105, 105], [], 0, 8⟩,
  ⟨171, [79, 112, 73, 78, 111, 116, 69, 113, 117, 97, 108], true, true, [105, 105], [], 0, 8⟩,
  ⟨172, [79, 112, 85, 71, 114, 101, 97, 116, 101, 114, 84, 104, 97, 110], true, true, [105, 105], [], 0, 8⟩,
  ⟨173, [79, 112, 83, 71, 114, 101, 97, 116, 101, 114, 84, 104, 97, 110], true, true, [105, 105], [], 0, 8⟩,
  ⟨174, [79, 112, 85, 71, 114, 101, 97, 116, 101, 114, 84, 104, 97, 110, 69, 113, 117, 97, 108], true, true, [105, 105], [], 0, 8⟩,
  ⟨175, [79, 112, 83, 71, 114, 101, 97, 116, 101, 114, 84, 104, 97, 110, 69, 113, 117, 97, 108], true, true, [105, 105], [], 0, 8⟩,
  ⟨176, [79, 112, 85, 76, 101, 115, 115, 84, 104, 97, 110], true, true, [105, 105], [], 0, 8⟩,
  ⟨177, [79, 112, 83, 76, 101, 115, 115, 84, 104, 97, 110], true, true, [105, 105], [], 0, 8⟩,
  ⟨178, [79, 112, 85, 76, 101, 115, 115, 84, 104, 97, 110, 69, 113, 117, 97, 108], true, true, [105, 105], [], 0, 8⟩,
  ⟨179, [79, 112, 83, 76, 101, 115, 115, 84, 104, 97, 110, 69, 113, 117, 97, 108], true, true, [105, 105], [], 0, 8⟩,
  ⟨194, [79, 112, 83, 104, 105, 102, 116, 82, 105, 103, 104, 116, 76, 111, 103, 105, 99, 97, 108], true, true, [105, 105], [], 0, 8⟩,
  ⟨195, [79, 112, 83, 104, 105, 102, 116, 82, 105, 103, 104, 116, 65, 114, 105, 116, 104, 109, 101, 116, 105, 99], true, true, [105, 105], [], 0, 8⟩,
  ⟨196, [79, 112, 83, 104, 105, 102, 116, 76, 101, 102, 116, 76, 111, 103, 105, 99, 97, 108], true, true, [105, 105], [], 0, 8⟩,
  ⟨197, [79, 112, 66, 105, 116, 119, 105, 115, 101, 79, 114], true, true, [105, 105], [], 0, 8⟩,
  ⟨198, [79, 112, 66, 105, 116, 119, 105, 115, 101, 88, 111, 114], true, true, [105, 105], [], 0, 8⟩,
  ⟨199, [79, 112, 66, 105, 116, 119, 105, 115, 101, 65, 110, 100], true, true, [105, 105], [], 0, 8⟩,
  ⟨200, [79, 112, 78, 111, 116], true, true, [105], [], 0, 8⟩,
  ⟨201, [79, 112, 66, 105, 116, 70, 105, 101, 108, 100, 73, 110, 115, 101, 114, 116], true, true, [105, 105, 105, 105], [], 0, 8⟩,
  ⟨202, [79, 112, 66, 105, 116, 70, 105, 101, 108, 100, 83, 69, 120, 116, 114, 97, 99, 116], true, true, [105, 105, 105], [], 0, 8⟩,
  ⟨203, [79, 112, 66, 105, 116, 70, 105, 101, 108, 100, 85, 69, 120, 116, 114, 97, 99, 116], true, true, [105, 105, 105], [], 0, 8⟩,
  ⟨204, [79, 112, 66, 105, 116, 82, 101, 118, 101, 114, 115, 101], true, true, [105], [], 0, 8⟩,
  ⟨205, [79, 112, 66, 105, 116, 67, 111, 117, 110, 116], true, true, [105], [], 0, 8⟩,
  ⟨245, [79, 112, 80, 104, 105], true, true, [], [105, 105], 0, 8⟩,
  ⟨246, [79, 112, 76, 111, 111, 112, 77, 101, 114, 103, 101], false, false, [105, 105, 103], [], 0, 8⟩,
  ⟨247, [79, 112, 83, 101, 108, 101, 99, 116, 105, 111, 110, 77, 101, 114, 103, 101], false, false, [105, 104], [], 0, 8⟩,
  ⟨248, [79, 112, 76, 97, 98, 101, 108], false, true, [], [], 0, 8⟩,
  ⟨249, [79, 112, 66, 114, 97, 110, 99, 104], false, false, [105], [], 0, 8⟩,
  ⟨250, [79, 112, 66, 114, 97, 110, 99, 104, 67, 111, 110, 100, 105, 116, 105, 111, 110, 97, 108], false, false, [105, 105, 105], [], 0, 8⟩,
  ⟨251, [79, 112, 83, 119, 105, 116, 99, 104], false, false, [105, 105], [110, 105], 0, 8⟩,
  ⟨252, [79, 112, 75, 105, 108, 108], false, false, [], [], 0, 8⟩,
  ⟨253, [79, 112, 82, 101, 116, 117, 114, 110], false, false, [], [], 0, 8⟩,
  ⟨254, [79, 112, 82, 101, 116, 117, 114, 110, 86, 97, 108, 117, 101], false, false, [105], [], 0, 8⟩,
  ⟨255, [79, 112, 85, 110, 114, 101, 97, 99, 104, 97, 98, 108, 101], false, false, [], [], 0, 8⟩]
structure NameL where
  letter : Int
  n : Int
  name : Byts
  deriving DecidableEq
def namesL : List NameL := [⟨107, 0, [77, 97, 116, 114, 105, 120]⟩,
  ⟨107, 1, [83, 104, 97, 100, 101, 114]⟩,
  ⟨97, 0, [76, 111, 103, 105, 99, 97, 108]⟩,
  ⟨109, 0, [83, 105, 109, 112, 108, 101]⟩,
  ⟨109, 1, [71, 76, 83, 76, 52, 53, 48]⟩,
  ⟨101, 0, [86, 101, 114, 116, 101, 120]⟩,
  ⟨101, 4, [70, 114, 97, 103, 109, 101, 110, 116]⟩,
  ⟨120, 7, [79, 114, 105, 103, 105, 110, 85, 112, 112, 101, 114, 76, 101, 102, 116]⟩,
  ⟨108, 0, [85, 110, 107, 110, 111, 119, 110]⟩,
  ⟨108, 1, [69, 83, 83, 76]⟩,
  ⟨108, 2, [71, 76, 83, 76]⟩,
  ⟨99, 1, [73, 110, 112, 117, 116]⟩,
  ⟨99, 3, [79, 117, 116, 112, 117, 116]⟩,
  ⟨99, 6, [80, 114, 105, 118, 97, 116, 101]⟩,
  ⟨99, 7, [70, 117, 110, 99, 116, 105, 111, 110]⟩,
  ⟨100, 0, [82, 101, 108, 97, 120, 101, 100, 80, 114, 101, 99, 105, 115, 105, 111, 110]⟩,
  ⟨100, 11, [66, 117, 105, 108, 116, 73, 110]⟩,
  ⟨100, 14, [70, 108, 97, 116]⟩,
  ⟨100, 30, [76, 111, 99, 97, 116, 105, 111, 110]⟩,
  ⟨102, 0, [78, 111, 110, 101]⟩,
  ⟨102, 1, [73, 110, 108, 105, 110, 101]⟩,
  ⟨102, 2, [68, 111, 110, 116, 73, 110, 108, 105, 110, 101]⟩,
  ⟨102, 4, [80, 117, 114, 101]⟩,
  ⟨102, 8, [67, 111, 110, 115, 116]⟩,
  ⟨104, 0, [78, 111, 110, 101]⟩,
  ⟨104, 1, [70, 108, 97, 116, 116, 101, 110]⟩,
  ⟨104, 2, [68, 111, 110, 116, 70, 108, 97, 116, 116, 101, 110]⟩,
  ⟨103, 0, [78, 111, 110, 101]⟩,
  ⟨103, 1, [85, 110, 114, 111, 108, 108]⟩,
  ⟨103, 2, [68, 111, 110, 116, 85, 110, 114, 111, 108, 108]⟩]
def look (T : List (Int × Byts)) (n : Int) : Byts := match T with
  | [] => []
  | p :: T => if n = p.1 then p.2 else look T n
theorem look_none {n : Int} : ∀ {T : List (Int × Byts)}, (∀ p ∈ T, ¬ n = p.1) → look T n = []
  | [], _ => rfl
  | p :: T, h => by rw [look, if_neg (h p (.head _)), look_none fun q hq => h q (.tail _ hq)]
def rowS (op : Int) : Byts := if op ≤ 71 then look firstT op else if op ≤ 171 then look secondT op else look thirdT op
def refF (op : Int) : List FormL → Option FormL
  | [] => none
  | f :: T => if op = f.op then some f else refF op T
def refS (op : Int) : Option FormL := refF op refT
theorem refF_none {op : Int} : ∀ {T : List FormL}, (∀ f ∈ T, ¬ op = f.op) → refF op T = none
  | [], _ => rfl
  | f :: T, h => by rw [refF, if_neg (h f (.head _)), refF_none fun q hq => h q (.tail _ hq)]
theorem refF_mem {op : Int} {f : FormL} : ∀ {T : List FormL}, refF op T = some f → f ∈ T ∧ f.op = op
  | [], h => by cases h
  | g :: T, h => by
    rw [refF] at h
    split at h
    · cases h; exact ⟨.head _, by assumption |> Eq.symm⟩
    · have := refF_mem h; exact ⟨.tail _ this.1, this.2⟩
def zeroF : FormL := ⟨0, [], false, false, [], [], 0, 0⟩
abbrev formC (f : FormL) : List Value := [.int .u16 f.op, str f.name, .bool f.ty, .bool f.res, str f.fixed, str f.rest, .int .i64 f.most, .int .u8 f.part]
abbrev formV (o : Option FormL) : Value := .tuple #[.agg (formC (o.getD zeroF)).toArray, .bool o.isSome]
def stepF (st : Nat × List Byts) (c : UInt8) : Nat × List Byts := if c = 32 then (st.1 + 1, st.2) else (st.1, st.2.modify st.1 (· ++ [c]))
def fieldsF (s : Byts) : Nat × List Byts := s.foldl stepF (0, [[], [], [], [], [], []])
def fieldsS (s : Byts) : List Byts := (fieldsF s).2
theorem take_succ {s : Byts} {i : Nat} (h : i < s.length) : s.take (i + 1) = s.take i ++ [s[i]] := by rw [List.take_succ_eq_append_getElem h]
theorem fieldsF_step {s : Byts} {i : Nat} (h : i < s.length) : fieldsF (s.take (i + 1)) = stepF (fieldsF (s.take i)) s[i] := by
  unfold fieldsF; rw [take_succ h, List.foldl_append]; rfl
theorem foldl_stepF : ∀ (s : Byts) (st : Nat × List Byts), st.1 ≤ (s.foldl stepF st).1 ∧ (s.foldl stepF st).2.length = st.2.length
  | [], st => ⟨Nat.le_refl _, rfl⟩
  | c :: s, st => by
    have h := foldl_stepF s (stepF st c)
    rw [List.foldl_cons]
    have e : st.1 ≤ (stepF st c).1 ∧ (stepF st c).2.length = st.2.length := by
      unfold stepF; split
      · exact ⟨by simp, rfl⟩
      · exact ⟨Nat.le_refl _, by simp⟩
    exact ⟨Nat.le_trans e.1 h.1, h.2.trans e.2⟩
theorem fieldsF_len (s : Byts) : (fieldsF s).2.length = 6 := (foldl_stepF s _).2
theorem fieldsF_at {s : Byts} {i : Nat} : (fieldsF (s.take i)).1 ≤ (fieldsF s).1 := by
  have : fieldsF s = (s.drop i).foldl stepF (fieldsF (s.take i)) := by
    unfold fieldsF; rw [← List.foldl_append, List.take_append_drop]
  rw [this]; exact (foldl_stepF _ _).1
theorem fieldsF_short (s : Byts) : ∀ i, i ≤ s.length → ∀ f ∈ (fieldsF (s.take i)).2, f.length ≤ i
  | 0, _ => by simp [fieldsF]
  | i + 1, h => by
    rw [fieldsF_step (by omega)]
    have ih := fieldsF_short s i (by omega)
    intro f hf
    unfold stepF at hf
    split at hf
    · have := ih f hf; omega
    · obtain ⟨j, hj, rfl⟩ := List.getElem_of_mem hf
      simp only [List.length_modify] at hj
      rw [List.getElem_modify]
      have := ih _ (List.getElem_mem hj)
      split <;> simp <;> omega
def rowOk (s : Byts) : Bool := s.all (fun c => c.toNat < 128) && decide ((fieldsF s).1 ≤ 5) && decide (s.length ≤ 100) && (fieldsS s).all (fun f => f.all fun c => c.toNat < 128) && (s == [] || !((fieldsS s).getD 5 []).isEmpty)
def subU8 (c : UInt8) (n : Int) : Int := IntKind.u8.wrap ((c.toNat : Int) - n)
def ofS (op : Int) : Option FormL :=
  if rowS op = [] then none
  else some ⟨op, (fieldsS (rowS op)).getD 0 [], ((fieldsS (rowS op)).getD 1 []).contains 84, ((fieldsS (rowS op)).getD 1 []).contains 82, (fieldsS (rowS op)).getD 2 [], (fieldsS (rowS op)).getD 3 [],
    (if (fieldsS (rowS op)).getD 4 [] = [] then 0 else subU8 (((fieldsS (rowS op)).getD 4 []).getD 0 0) 48), subU8 (((fieldsS (rowS op)).getD 5 []).getD 0 0) 48⟩
theorem rows_small : (List.range 256).all (fun n => rowOk (rowS n) && decide (ofS n = refS n)) = true := by decide +kernel
theorem thirdT_small : thirdT.all (fun p => decide (p.1 ≤ 255)) = true := by decide +kernel
theorem refT_small : refT.all (fun f => decide (0 ≤ f.op ∧ f.op ≤ 255)) = true := by decide +kernel
theorem rowS_big {op : Int} (h : 255 < op) : rowS op = [] := by
  unfold rowS
  rw [if_neg (by omega), if_neg (by omega)]
  refine look_none fun p hp e => ?_
  have := List.all_eq_true.1 thirdT_small p hp
  simp only [decide_eq_true_eq] at this
  omega
theorem refS_big {op : Int} (h : 255 < op) : refS op = none := refF_none fun f hf e => by
  have := List.all_eq_true.1 refT_small f hf
  simp only [decide_eq_true_eq] at this
  omega
theorem rowS_all {op : Int} (h : 0 ≤ op) : rowOk (rowS op) = true ∧ ofS op = refS op := by
  by_cases hb : 255 < op
  · have e : ofS op = none := by unfold ofS; rw [if_pos (rowS_big hb)]
    rw [rowS_big hb, refS_big hb, e]; exact ⟨by decide +kernel, rfl⟩
  · have := List.all_eq_true.1 rows_small op.toNat (List.mem_range.2 (by omega))
    simp only [Bool.and_eq_true, decide_eq_true_eq] at this
    rw [show ((op.toNat : Nat) : Int) = op by omega] at this
    exact this
theorem rowOk_spec {s : Byts} (h : rowOk s = true) : (∀ c ∈ s, c.toNat < 128) ∧ (fieldsF s).1 ≤ 5 ∧ s.length ≤ 100 ∧ (∀ f ∈ fieldsS s, ∀ c ∈ f, c.toNat < 128) ∧ (s = [] ∨ (fieldsS s).getD 5 [] ≠ []) := by
  simp only [rowOk, Bool.and_eq_true, List.all_eq_true, decide_eq_true_eq, Bool.or_eq_true, beq_iff_eq, Bool.not_eq_true', List.isEmpty_eq_false_iff] at h
  exact ⟨h.1.1.1.1, h.1.1.1.2, h.1.1.2, h.1.2, h.2⟩
theorem refS_op {op : Int} {f : FormL} (h : refS op = some f) : f.op = op := (refF_mem h).2
def formOk (f : FormL) : Bool := decide (0 ≤ f.op ∧ f.op ≤ 255) && decide (0 ≤ f.most ∧ f.most ≤ 9) && decide (f.fixed.length ≤ 40) && decide (f.rest.length ≤ 40) && decide (f.name.length ≤ 100) && decide (0 ≤ f.part ∧ f.part ≤ 9) && f.fixed.all (· != 0) && f.rest.all (· != 0)
theorem refT_ok : refT.all formOk = true := by decide +kernel
theorem refS_ok {op : Int} {f : FormL} (h : refS op = some f) : formOk f = true := List.all_eq_true.1 refT_ok f (refF_mem h).1
theorem getD_short {l : List Byts} {n i : Nat} (h : ∀ f ∈ l, f.length ≤ n) : (l.getD i []).length ≤ n := by
  by_cases hi : i < l.length
  · simp only [List.getD, List.getElem?_eq_getElem hi, Option.getD_some]; exact h _ (List.getElem_mem hi)
  · simp [List.getD, List.getElem?_eq_none (Nat.le_of_not_lt hi)]
theorem has_step {l : Byts} {i : Nat} (x : UInt8) {m : Int} (hm : ((x.toNat : Nat) : Int) = m) (h : i < l.length) : (l.take (i + 1)).contains x = ((l.take i).contains x || decide ((l[i].toNat : Int) = m)) := by
  subst hm
  rw [take_succ h, List.contains_eq_any_beq, List.any_append, ← List.contains_eq_any_beq]
  congr 1
  simp only [List.any_cons, List.any_nil, Bool.or_false]
  by_cases e : x = l[i]
  · rw [e]; simp
  · rw [show (x == l[i]) = false from beq_eq_false_iff_ne.2 e]
    symm
    rw [decide_eq_false_iff_not]
    intro he
    exact e (UInt8.toNat_inj.1 (by omega))
theorem u8wrap_bd (n : Int) : 0 ≤ IntKind.u8.wrap n ∧ IntKind.u8.wrap n ≤ 255 := by simp [IntKind.wrap, IntKind.bits, IntKind.signed]; omega
def numStep (n : Int) (c : UInt8) : Int := IntKind.u32.wrap (IntKind.u32.wrap (10 * n) + IntKind.u32.wrap ((c.toNat : Int) - 48))
def numF (s : Byts) : Int := s.foldl numStep 0
theorem numF_step {s : Byts} {i : Nat} (h : i < s.length) : numF (s.take (i + 1)) = numStep (numF (s.take i)) s[i] := by
  unfold numF; rw [take_succ h, List.foldl_append]; rfl
theorem find_hit {α : Type} {p : α → Bool} {l : List α} {i : Nat} {d : α} {R : Option α} (h : (l.drop i).find? p = R) (hi : i < l.length) (hp : p (l.getD i d) = true) : R = some (l.getD i d) := by
  rw [List.drop_eq_getElem_cons hi] at h
  simp only [List.getD, List.getElem?_eq_getElem hi, Option.getD_some] at hp ⊢
  rw [List.find?_cons_of_pos hp] at h
  exact h.symm
theorem find_miss {α : Type} {p : α → Bool} {l : List α} {i : Nat} {d : α} {R : Option α} (h : (l.drop i).find? p = R) (hi : i < l.length) (hp : p (l.getD i d) = false) : (l.drop (i + 1)).find? p = R := by
  rw [List.drop_eq_getElem_cons hi] at h
  simp only [List.getD, List.getElem?_eq_getElem hi, Option.getD_some] at hp
  rwa [List.find?_cons_of_neg (by simp [hp])] at h
theorem find_end {α : Type} {p : α → Bool} {l : List α} {i : Nat} {R : Option α} (h : (l.drop i).find? p = R) (hi : l.length ≤ i) : R = none := by
  rw [List.drop_eq_nil_of_le hi] at h; exact h.symm
def zeroN : NameL := ⟨0, 0, []⟩
abbrev nameC (n : NameL) : List Value := [.int .u8 n.letter, .int .u32 n.n, str n.name]
theorem nameC_len (n : NameL) : (nameC n).length = 3 := rfl
theorem formC_len (f : FormL) : (formC f).length = 8 := rfl
abbrev enN (c n : Int) (x : NameL) : Bool := decide (x.letter = c ∧ x.n = n)
abbrev enS (c : Int) (s : Byts) (x : NameL) : Bool := decide (x.letter = c ∧ x.name = s)
abbrev nameV (o : Option NameL) : Value := .tuple #[str (o.getD zeroN).name, .bool o.isSome]
abbrev numV (o : Option NameL) : Value := .tuple #[.int .u32 (o.getD zeroN).n, .bool o.isSome]
def enumsL (c : Int) : List NameL := namesL.filter fun x => decide (x.letter = c)
structure EnSt where
  n : Int
  word : Byts
  num : Bool
  out : List (Int × Byts)
def enStep (st : EnSt) (c : UInt8) : EnSt :=
  if c ≠ 32 then ⟨st.n, st.word ++ [c], st.num, st.out⟩
  else if st.num then ⟨st.n, [], false, st.out ++ [(st.n, st.word)]⟩ else ⟨numF st.word, [], true, st.out⟩
def enF (s : Byts) : EnSt := s.foldl enStep ⟨0, [], false, []⟩
theorem enF_step {s : Byts} {i : Nat} (h : i < s.length) : enF (s.take (i + 1)) = enStep (enF (s.take i)) s[i] := by
  unfold enF; rw [take_succ h, List.foldl_append]; rfl
theorem enF_inv (s : Byts) (hs : ∀ c ∈ s, c.toNat < 128) : ∀ i, i ≤ s.length → (enF (s.take i)).word.length ≤ i ∧ ∀ c ∈ (enF (s.take i)).word, c.toNat < 128
  | 0, _ => by simp [enF]
  | i + 1, h => by
    have ih := enF_inv s hs i (by omega)
    rw [enF_step (by omega)]
    unfold enStep
    split
    · refine ⟨by simp; omega, fun c hc => ?_⟩
      rcases List.mem_append.1 hc with hc | hc
      · exact ih.2 c hc
      · rw [List.mem_singleton.1 hc]; exact hs _ (List.getElem_mem _)
    · split <;> exact ⟨by simp, by simp⟩
theorem foldl_enStep : ∀ (s : Byts) (st : EnSt), ∃ t, (s.foldl enStep st).out = st.out ++ t
  | [], st => ⟨[], by simp⟩
  | c :: s, st => by
    obtain ⟨t, ht⟩ := foldl_enStep s (enStep st c)
    rw [List.foldl_cons, ht]
    unfold enStep
    split
    · exact ⟨t, rfl⟩
    · split
      · exact ⟨(st.n, st.word) :: t, by simp⟩
      · exact ⟨t, rfl⟩
theorem enF_out (s : Byts) (i : Nat) : ∃ t, (enF s).out = (enF (s.take i)).out ++ t := by
  have : enF s = (s.drop i).foldl enStep (enF (s.take i)) := by
    unfold enF; rw [← List.foldl_append, List.take_append_drop]
  rw [this]; exact foldl_enStep _ _
theorem enF_told {s : Byts} {l : List (Int × Byts)} (hl : (enF s).out = l) {i : Nat} (h : i < s.length) (hc : s[i] = 32) (hn : (enF (s.take i)).num = true) :
    (enF (s.take i)).out.length < l.length ∧ l.getD (enF (s.take i)).out.length (0, []) = ((enF (s.take i)).n, (enF (s.take i)).word) := by
  obtain ⟨t, ht⟩ := enF_out s (i + 1)
  rw [enF_step h] at ht
  have e : (enStep (enF (s.take i)) s[i]).out = (enF (s.take i)).out ++ [((enF (s.take i)).n, (enF (s.take i)).word)] := by
    unfold enStep; rw [if_neg (by simp [hc]), if_pos hn]
  rw [e, List.append_assoc] at ht
  subst hl
  rw [ht]
  refine ⟨by simp, ?_⟩
  simp [List.getD]
def namesOk (s : Byts) : Bool := s.all (fun c => c.toNat < 128) && decide (s.length ≤ 100)
theorem names_small : (List.range 256).all (fun n => namesOk (look namesT n) && decide ((enF (look namesT n)).out = (enumsL n).map fun x => (x.n, x.name))) = true := by decide +kernel
theorem names_all {c : Int} (h0 : 0 ≤ c) (h1 : c ≤ 255) : (∀ x ∈ look namesT c, x.toNat < 128) ∧ (look namesT c).length ≤ 100 ∧ (enF (look namesT c)).out = (enumsL c).map fun x => (x.n, x.name) := by
  have := List.all_eq_true.1 names_small c.toNat (List.mem_range.2 (by omega))
  rw [show ((c.toNat : Nat) : Int) = c by omega] at this
  simp only [namesOk, Bool.and_eq_true, List.all_eq_true, decide_eq_true_eq] at this
  exact ⟨this.1.1, this.1.2, this.2⟩
theorem enums_find {c n : Int} : (enumsL c).find? (fun x => decide (x.n = n)) = namesL.find? (enN c n) := by
  unfold enumsL; rw [List.find?_filter]; congr 1; funext x
  simp [enN]
theorem enums_findS {c : Int} {s : Byts} : (enumsL c).find? (fun x => decide (x.name = s)) = namesL.find? (enS c s) := by
  unfold enumsL; rw [List.find?_filter]; congr 1; funext x
  simp [enS]
theorem map_getD {α β : Type} {l : List α} {f : α → β} {k : Nat} {d : α} {d' : β} (hk : k < l.length) : (l.map f).getD k d' = f (l.getD k d) := by
  simp [List.getD, hk]
def allL (n : Nat) : List FormL := refT.filter fun f => decide (f.op < (n : Int))
theorem all_small : (List.range 256).all (fun n => decide (allL (n + 1) = allL n ++ (refS n).toList) && decide ((refS n).isSome = true → refT.getD (allL n).length zeroF = (refS n).getD zeroF ∧ (allL n).length < refT.length)) = true := by decide +kernel
theorem all_step {n : Nat} (h : n < 256) : allL (n + 1) = allL n ++ (refS n).toList ∧ ((refS n).isSome = true → refT.getD (allL n).length zeroF = (refS n).getD zeroF ∧ (allL n).length < refT.length) := by
  have := List.all_eq_true.1 all_small n (List.mem_range.2 h)
  simpa only [Bool.and_eq_true, decide_eq_true_eq] using this
theorem all_none {n : Nat} (h : n < 256) (hs : (refS n).isSome = false) : allL (n + 1) = allL n := by
  rw [(all_step h).1, show refS n = none by simpa using hs]; simp
theorem all_some {n : Nat} (h : n < 256) (hs : (refS n).isSome = true) : allL (n + 1) = allL n ++ [(refS n).getD zeroF] := by
  rw [(all_step h).1]
  obtain ⟨f, hf⟩ := Option.isSome_iff_exists.1 hs
  rw [hf]; rfl
theorem all_256 : allL 256 = refT := by decide +kernel
theorem all_0 : allL 0 = [] := by decide +kernel
theorem refT_len : refT.length = 93 := by decide +kernel
theorem all_len (n : Nat) : (allL n).length ≤ 93 := by
  rw [← refT_len]; exact List.length_filter_le _ _
abbrev nmF (q : Byts) (f : FormL) : Bool := decide (f.name = q)
def kindS (c : Int) : Int := if c = 105 then 1 else if c = 110 then 2 else if c = 115 then 3 else if look namesT c ≠ [] then 4 else 0
theorem names_any_small : (List.range 256).all (fun n => decide ((look namesT n ≠ []) ↔ (namesL.find? (fun x => decide (x.letter = (n : Int)))).isSome = true)) = true := by decide +kernel
theorem names_any {c : Int} (h0 : 0 ≤ c) (h1 : c ≤ 255) : (look namesT c ≠ []) ↔ (namesL.find? (fun x => decide (x.letter = c))).isSome = true := by
  have := List.all_eq_true.1 names_any_small c.toNat (List.mem_range.2 (by omega))
  rw [show ((c.toNat : Nat) : Int) = c by omega] at this
  simpa only [decide_eq_true_eq] using this
theorem refD_ok (op : Int) : formOk ((refS op).getD zeroF) = true := by
  cases h : refS op with
  | none => decide +kernel
  | some f => exact refS_ok h
structure FOk (f : FormL) : Prop where
  op : 0 ≤ f.op ∧ f.op ≤ 255
  most : 0 ≤ f.most ∧ f.most ≤ 9
  fixed : f.fixed.length ≤ 40
  rest : f.rest.length ≤ 40
  name : f.name.length ≤ 100
  part : 0 ≤ f.part ∧ f.part ≤ 9
  fix0 : ∀ c ∈ f.fixed, c ≠ 0
  rest0 : ∀ c ∈ f.rest, c ≠ 0
theorem FOk.of {f : FormL} (h : formOk f = true) : FOk f := by
  simp only [formOk, Bool.and_eq_true, decide_eq_true_eq, List.all_eq_true, bne_iff_ne] at h
  obtain ⟨⟨⟨⟨⟨⟨⟨h1, h2⟩, h3⟩, h4⟩, h5⟩, h6⟩, h7⟩, h8⟩ := h
  exact ⟨h1, h2, h3, h4, h5, h6, h7, h8⟩
abbrev refD (op : Int) : FormL := (refS op).getD zeroF
theorem refD_fok (op : Int) : FOk (refD op) := FOk.of (refD_ok op)
def fixS (f : FormL) (i : Int) : Int := if i < 0 ∨ (f.fixed.length : Int) ≤ i then 0 else ((f.fixed.getD i.toNat 0).toNat : Int)
def restS (f : FormL) (i : Int) : Int :=
  if i - f.fixed.length < 0 ∨ f.rest = [] ∨ (0 < f.most ∧ f.most * f.rest.length ≤ i - f.fixed.length) then 0
  else ((f.rest.getD ((i - f.fixed.length) % f.rest.length).toNat 0).toNat : Int)
def letterS (f : FormL) (i : Int) : Int := if i < 0 then 0 else if i < f.fixed.length then ((f.fixed.getD i.toNat 0).toNat : Int) else restS f i
theorem fix_ne {f : FormL} (hf : FOk f) {i : Int} (h0 : 0 ≤ i) (h1 : i < f.fixed.length) : fixS f i = ((f.fixed.getD i.toNat 0).toNat : Int) ∧ fixS f i ≠ 0 := by
  have e : fixS f i = ((f.fixed.getD i.toNat 0).toNat : Int) := by unfold fixS; rw [if_neg (by omega)]
  refine ⟨e, ?_⟩
  rw [e]
  have hi : i.toNat < f.fixed.length := by omega
  have hc := hf.fix0 _ (List.getElem_mem hi)
  simp only [List.getD, List.getElem?_eq_getElem hi, Option.getD_some]
  intro h
  exact hc (UInt8.toNat_inj.1 (by simpa using (by omega : f.fixed[i.toNat].toNat = 0)))
theorem letter_fix {f : FormL} (hf : FOk f) {i : Int} (h0 : 0 ≤ i) (h : ¬ fixS f i = 0) : letterS f i = fixS f i := by
  have h1 : i < f.fixed.length := by
    refine Classical.byContradiction fun hn => h ?_
    unfold fixS; rw [if_pos (by omega)]
  rw [(fix_ne hf h0 h1).1]; unfold letterS; rw [if_neg (by omega), if_pos h1]
theorem letter_rest {f : FormL} (hf : FOk f) {i : Int} (h0 : 0 ≤ i) (h : fixS f i = 0) : letterS f i = restS f i := by
  have h1 : ¬ i < f.fixed.length := fun hn => (fix_ne hf h0 hn).2 h
  unfold letterS; rw [if_neg (by omega), if_neg h1]
theorem byte_bd (c : UInt8) : 0 ≤ (c.toNat : Int) ∧ (c.toNat : Int) ≤ 255 := by have := c.toNat_lt; omega
theorem letterS_bd (f : FormL) (i : Int) : 0 ≤ letterS f i ∧ letterS f i ≤ 255 := by
  unfold letterS restS
  have h1 := byte_bd (f.fixed.getD i.toNat 0)
  have h2 := byte_bd (f.rest.getD ((i - f.fixed.length) % f.rest.length).toNat 0)
  repeat (split; · omega)
  omega
theorem most_div {k r m : Int} (hr : 0 < r) : (m ≤ k / r ↔ m * r ≤ k) := Int.le_ediv_iff_mul_le hr
theorem find_name_small : refT.all (fun f => decide (refT.find? (nmF f.name) = some f)) = true := by decide +kernel
theorem find_name {op : Int} {f : FormL} (h : refS op = some f) : refT.find? (nmF f.name) = some f := by
  have := List.all_eq_true.1 find_name_small f (refF_mem h).1
  simpa only [decide_eq_true_eq] using this
theorem refD_none {op : Int} (h : (refS op).isSome = false) : refD op = zeroF := by
  rw [refD, show refS op = none by simpa using h]; rfl
theorem refD_some {op : Int} (h : (refS op).isSome = true) : refT.find? (nmF (refD op).name) = some (refD op) ∧ (refD op).op = op := by
  obtain ⟨f, hf⟩ := Option.isSome_iff_exists.1 h
  rw [refD, hf]
  exact ⟨find_name hf, refS_op hf⟩
theorem letter_zero (i : Int) : letterS zeroF i = 0 := by
  unfold letterS
  by_cases h : i < 0
  · rw [if_pos h]
  · rw [if_neg h, if_neg (by show ¬ i < 0; omega)]
    unfold restS
    rw [if_pos (.inr (.inl rfl))]
theorem div_bd {a b : Int} (ha : 0 ≤ a) (hb : 0 < b) : 0 ≤ a / b ∧ a / b ≤ a := ⟨Int.ediv_nonneg ha (by omega), Int.ediv_le_self b ha⟩
end Go.SK
namespace Go.SK
abbrev u8C (x : Int) : List Value := [.int .u8 x]
theorem u8C_len (x : Int) : (u8C x).length = 1 := rfl
abbrev badB (f : FormL) (i : Nat) (k : Int) : Prop := k = 0 ∨ kindS (letterS f i) ≠ k
def badI (f : FormL) : Nat → List Int → Option Nat
  | _, [] => none
  | i, k :: ks => if badB f i k then some i else badI f (i + 1) ks
theorem bad_hit {f : FormL} {ks : List Int} {i : Nat} {R : Option Nat} (h : badI f i (ks.drop i) = R) (hi : i < ks.length) (hb : badB f i (ks.getD i 0)) : R = some i := by
  rw [List.drop_eq_getElem_cons hi, badI] at h
  simp only [List.getD, List.getElem?_eq_getElem hi, Option.getD_some] at hb
  rw [if_pos hb] at h; exact h.symm
theorem bad_miss {f : FormL} {ks : List Int} {i : Nat} {R : Option Nat} (h : badI f i (ks.drop i) = R) (hi : i < ks.length) (hb : ¬ badB f i (ks.getD i 0)) : badI f (i + 1) (ks.drop (i + 1)) = R := by
  rw [List.drop_eq_getElem_cons hi, badI] at h
  simp only [List.getD, List.getElem?_eq_getElem hi, Option.getD_some] at hb
  rwa [if_neg hb] at h
theorem bad_end {f : FormL} {ks : List Int} {i : Nat} {R : Option Nat} (h : badI f i (ks.drop i) = R) (hi : ks.length ≤ i) : R = none := by
  rw [List.drop_eq_nil_of_le hi, badI] at h; exact h.symm
abbrev offR (f : FormL) (n : Nat) : Prop := (n : Int) - f.fixed.length < 0 ∨ (f.rest ≠ [] ∧ ((n : Int) - f.fixed.length) % f.rest.length ≠ 0)
def fitsF (f : FormL) (ks : List Int) : Int × Bool := match badI f 0 ks with
  | some i => ((i : Int), false)
  | none => if offR f ks.length then ((ks.length : Int), false) else (0, true)
def fitsS (op : Int) (ks : List Int) : Int × Bool := if (refS op).isSome then fitsF (refD op) ks else (0, false)
abbrev fitsV (p : Int × Bool) : Value := .tuple #[.int .i64 p.1, .bool p.2]
theorem fits_no {op : Int} {ks : List Int} {ob : Bool} (h : (refS op).isSome = ob) (ho : ob = false) : fitsS op ks = (0, false) := by
  unfold fitsS; rw [h, ho]; rfl
theorem fits_yes {op : Int} {ks : List Int} {fm : FormL} {ob : Bool} (h : (refS op).isSome = ob) (hf : refD op = fm) (ho : ob = true) : fitsS op ks = fitsF fm ks := by
  unfold fitsS; rw [h, ho, hf]; rfl
theorem fitsF_bad {f : FormL} {ks : List Int} {i : Nat} (h : badI f 0 ks = some i) : fitsF f ks = ((i : Int), false) := by unfold fitsF; rw [h]
theorem fitsF_off {f : FormL} {ks : List Int} (h : badI f 0 ks = none) (ho : offR f ks.length) : fitsF f ks = ((ks.length : Int), false) := by unfold fitsF; rw [h]; simp only; rw [if_pos ho]
theorem fitsF_on {f : FormL} {ks : List Int} (h : badI f 0 ks = none) (ho : ¬ offR f ks.length) : fitsF f ks = (0, true) := by unfold fitsF; rw [h]; simp only; rw [if_neg ho]
theorem letters_small : refT.all (fun f => (f.fixed ++ f.rest).all fun c => decide (kindS c.toNat ≠ 0)) = true := by decide +kernel
theorem refD_kind (op i : Int) (h : letterS (refD op) i ≠ 0) : kindS (letterS (refD op) i) ≠ 0 := by
  cases hr : refS op with
  | none =>
    have : refD op = zeroF := by rw [refD, hr]; rfl
    rw [this, letter_zero] at h; exact absurd rfl h
  | some f =>
    have e : refD op = f := by rw [refD, hr]; rfl
    rw [e] at h ⊢
    have hall := List.all_eq_true.1 letters_small f (refF_mem hr).1
    rw [List.all_eq_true] at hall
    have key : ∀ c ∈ f.fixed ++ f.rest, kindS (c.toNat : Int) ≠ 0 := fun c hc => by simpa only [decide_eq_true_eq] using hall c hc
    unfold letterS at h ⊢
    split at h
    · exact absurd rfl h
    · rename_i h0
      rw [if_neg h0]
      split at h
      · rename_i h1
        rw [if_pos h1]
        have hi : i.toNat < f.fixed.length := by omega
        simp only [List.getD, List.getElem?_eq_getElem hi, Option.getD_some]
        exact key _ (List.mem_append_left _ (List.getElem_mem hi))
      · rename_i h1
        rw [if_neg h1]
        unfold restS at h ⊢
        split at h
        · exact absurd rfl h
        · rename_i h2
          rw [if_neg h2]
          have hr2 : 0 < f.rest.length := List.length_pos_iff.2 (fun e => h2 (.inr (.inl e)))
          have hm := Int.emod_lt_of_pos (i - (f.fixed.length : Int)) (show (0 : Int) < f.rest.length by omega)
          have hn := Int.emod_nonneg (i - (f.fixed.length : Int)) (show (f.rest.length : Int) ≠ 0 by omega)
          have hi : ((i - (f.fixed.length : Int)) % (f.rest.length : Int)).toNat < f.rest.length := by omega
          simp only [List.getD, List.getElem?_eq_getElem hi, Option.getD_some]
          exact key _ (List.mem_append_right _ (List.getElem_mem hi))
theorem kind_zero : kindS 0 = 0 := by decide +kernel
theorem bad_ref {op : Int} {fm : FormL} (hf : refD op = fm) {i : Nat} {k : Int} : (letterS fm i = 0 ∨ kindS (letterS fm i) ≠ k) ↔ badB fm i k := by
  subst hf
  constructor
  · rintro (h | h)
    · by_cases hk : k = 0
      · exact .inl hk
      · right; rw [h, kind_zero]; exact fun e => hk e.symm
    · exact .inr h
  · rintro (h | h)
    · by_cases hl : letterS (refD op) i = 0
      · exact .inl hl
      · right; rw [h]; exact refD_kind op i hl
    · exact .inr h
theorem off_iff {f : FormL} {n : Nat} {m : Nat} {t : Nat} (hm : m = f.fixed.length + t * f.rest.length) (hge : n ≤ m) (hlt : m < n + f.rest.length ∨ t = 0) (hno : f.rest = [] → n ≤ f.fixed.length) : (m ≠ n) ↔ offR f n := by
  by_cases hr : f.rest = []
  · have h0 : f.rest.length = 0 := by rw [hr]; rfl
    have := hno hr
    rw [h0] at hm
    simp only [offR]
    constructor
    · intro h; left; omega
    · rintro (h | h)
      · omega
      · exact absurd hr h.1
  · have hrl : 0 < f.rest.length := List.length_pos_iff.2 hr
    have key : ((n : Int) - f.fixed.length) = (t : Int) * f.rest.length - ((m : Int) - n) := by
      have : (m : Int) = f.fixed.length + (t : Int) * f.rest.length := by rw [hm]; simp
      omega
    simp only [offR]
    by_cases ht : t = 0
    · subst ht
      have : m = f.fixed.length := by simpa using hm
      constructor
      · intro h; left; omega
      · rintro (h | ⟨_, h⟩)
        · omega
        · intro e; apply h; rw [show (n : Int) - f.fixed.length = 0 by omega]; simp
    · have hlt' : m < n + f.rest.length := hlt.resolve_right ht
      constructor
      · intro h
        right
        refine ⟨hr, ?_⟩
        rw [key, show (t : Int) * f.rest.length - ((m : Int) - n) = (f.rest.length - ((m : Int) - n)) + f.rest.length * ((t : Int) - 1) by rw [Int.mul_sub, Int.mul_comm (f.rest.length : Int) t]; omega, Int.add_mul_emod_self_left, Int.emod_eq_of_lt (by omega) (by omega)]
        omega
      · rintro (h | ⟨_, h⟩) e
        · have : f.fixed.length ≤ m := by rw [hm]; exact Nat.le_add_right _ _
          omega
        · apply h
          rw [key, show (m : Int) - n = 0 by omega, Int.sub_zero]
          exact Int.mul_emod_left _ _
theorem bad_long {f : FormL} {ks : List Int} (hr : f.rest = []) (h : badI f 0 ks = none) : ks.length ≤ f.fixed.length := by
  refine Classical.byContradiction fun hn => ?_
  have key : ∀ i, i ≤ f.fixed.length → badI f i (ks.drop i) = none := by
    intro i
    induction i with
    | zero => intro _; exact h
    | succ i ih =>
      intro hi
      have h1 := ih (by omega)
      refine bad_miss h1 (by omega) fun hb => ?_
      have := bad_hit h1 (by omega) hb
      cases this
  have h1 := key f.fixed.length (Nat.le_refl _)
  have hb : badB f f.fixed.length (ks.getD f.fixed.length 0) := by
    have hl : letterS f (f.fixed.length : Int) = 0 := by
      unfold letterS
      rw [if_neg (by omega), if_neg (by omega)]
      unfold restS; rw [if_pos (.inr (.inl hr))]
    by_cases hk : ks.getD f.fixed.length 0 = 0
    · exact .inl hk
    · right; rw [hl, kind_zero]; exact fun e => hk e.symm
  have := bad_hit h1 (by omega) hb
  cases this
theorem badI_none {f : FormL} {i : Nat} : ∀ {ts : List Int}, (∀ j (hj : j < ts.length), ¬ badB f (i + j) ts[j]) → badI f i ts = none
  | [], _ => rfl
  | k :: ts, h => by
    rw [badI, if_neg (show ¬ badB f i k from h 0 (by simp))]
    exact badI_none (i := i + 1) fun j hj => by
      have := h (j + 1) (by simpa using hj)
      rw [show i + 1 + j = i + (j + 1) by omega]
      exact this
end Go.SK
namespace Go.SK
open Go.RowKit Go.ChangeShapes Go.WideShapes Go.ChangeAt
def idE (n bound : Int) : Int := if n = 0 ∨ n ≥ bound then 43 else 0
def enumE (c n : Int) : Int := if (namesL.find? (enN c n)).isSome = true then 0 else 31
def argE (c : Int) (ws : List Int) (bound : Int) : ArgP × Nat × Int :=
  if c = 0 ∨ ws.length = 0 then (zeroA, 0, 42)
  else if kindS c = 3 then (⟨3, 0, (textF ws).1⟩, (textF ws).2.1.toNat, (textF ws).2.2)
  else (⟨kindS c, ws.getD 0 0, []⟩, 1, if kindS c = 1 then idE (ws.getD 0 0) bound else if kindS c = 4 then enumE c (ws.getD 0 0) else 0)
theorem argE_none {c : Int} {ws : List Int} {b : Int} (h : c = 0 ∨ ws.length = 0) : argE c ws b = (zeroA, 0, 42) := if_pos h
theorem argE_text {c : Int} {ws : List Int} {b : Int} (h : ¬ c = 0) (h2 : ¬ ws.length = 0) (hk : kindS c = 3) : argE c ws b = (⟨3, 0, (textF ws).1⟩, (textF ws).2.1.toNat, (textF ws).2.2) := by
  unfold argE; rw [if_neg (fun h3 => h3.elim h h2), if_pos hk]
theorem argE_one {c : Int} {ws : List Int} {b : Int} (h : ¬ c = 0) (h2 : ¬ ws.length = 0) (hk : ¬ kindS c = 3) : argE c ws b = (⟨kindS c, ws.getD 0 0, []⟩, 1, if kindS c = 1 then idE (ws.getD 0 0) b else if kindS c = 4 then enumE c (ws.getD 0 0) else 0) := by
  unfold argE; rw [if_neg (fun h3 => h3.elim h h2), if_neg hk]
theorem argE_ok {c : Int} {ws : List Int} {b : Int} (h : (argE c ws b).2.2 = 0) : 1 ≤ (argE c ws b).2.1 ∧ (argE c ws b).2.1 ≤ ws.length ∧ c ≠ 0 ∧ (argE c ws b).1.kind = kindS c := by
  by_cases h1 : c = 0 ∨ ws.length = 0
  · rw [argE_none h1] at h; cases h
  · have h2 : ¬ c = 0 := fun e => h1 (.inl e)
    have h3 : ¬ ws.length = 0 := fun e => h1 (.inr e)
    by_cases hk : kindS c = 3
    · rw [argE_text h2 h3 hk] at h ⊢
      rcases textF_cases ws with ⟨e, he, h4⟩ | ⟨s, n, he, h4, h5, h6⟩
      · rw [he] at h; simp only at h; omega
      · rw [he]; simp only [Int.toNat_natCast]; exact ⟨h4, h5, h2, hk.symm⟩
    · rw [argE_one h2 h3 hk] at h ⊢
      exact ⟨Nat.le_refl _, by (try dsimp only); omega, h2, rfl⟩
def argsF (fm : FormL) (bound : Int) : Nat → Nat → List Int → List ArgP × Int
  | 0, _, _ => ([], 0)
  | n + 1, k, ws => if ws.length = 0 ∧ fm.fixed.length ≤ k then ([], 0)
    else if (argE (letterS fm k) ws bound).2.2 ≠ 0 then ([], (argE (letterS fm k) ws bound).2.2)
    else ((argE (letterS fm k) ws bound).1 :: (argsF fm bound n (k + 1) (ws.drop (argE (letterS fm k) ws bound).2.1)).1, (argsF fm bound n (k + 1) (ws.drop (argE (letterS fm k) ws bound).2.1)).2)
theorem argsF_fuel {fm : FormL} {bound : Int} : ∀ n n' k ws, ws.length < n → ws.length < n' → argsF fm bound n k ws = argsF fm bound n' k ws
  | 0, _, _, _, h, _ => absurd h (Nat.not_lt_zero _)
  | _, 0, _, _, _, h => absurd h (Nat.not_lt_zero _)
  | n + 1, n' + 1, k, ws, h, h' => by
    rw [argsF, argsF]
    by_cases h1 : ws.length = 0 ∧ fm.fixed.length ≤ k
    · rw [if_pos h1, if_pos h1]
    · rw [if_neg h1, if_neg h1]
      by_cases h2 : (argE (letterS fm k) ws bound).2.2 ≠ 0
      · rw [if_pos h2, if_pos h2]
      · have h3 := argE_ok (Classical.not_not.1 h2)
        rw [if_neg h2, if_neg h2, argsF_fuel n n' _ _ (by rw [List.length_drop]; omega) (by rw [List.length_drop]; omega)]
abbrev argsR (fm : FormL) (bound : Int) (k : Nat) (ws : List Int) : List ArgP × Int := argsF fm bound (ws.length + 1) k ws
theorem argsR_err {fm : FormL} {bound : Int} {k : Nat} {ws : List Int} (h : ws.length > 0 ∨ k < fm.fixed.length) (he : (argE (letterS fm k) ws bound).2.2 ≠ 0) : argsR fm bound k ws = ([], (argE (letterS fm k) ws bound).2.2) := by
  unfold argsR; rw [argsF, if_neg (by omega), if_pos he]
theorem argsR_step {fm : FormL} {bound : Int} {k : Nat} {ws : List Int} {a : ArgP} {m : Nat} (h : ws.length > 0 ∨ k < fm.fixed.length) (he : argE (letterS fm k) ws bound = (a, m, 0)) : argsR fm bound k ws = (a :: (argsR fm bound (k + 1) (ws.drop m)).1, (argsR fm bound (k + 1) (ws.drop m)).2) := by
  have h0 : (argE (letterS fm k) ws bound).2.2 = 0 := by rw [he]
  have h3 := argE_ok h0
  unfold argsR
  rw [argsF, if_neg (by omega), if_neg (fun e => e h0)]
  rw [he] at h3 ⊢
  dsimp only at h3 ⊢
  rw [argsF_fuel ws.length ((ws.drop m).length + 1) _ _ (by rw [List.length_drop]; omega) (by omega)]
theorem kinds_none {op : Int} {ags : List ArgP} (h : ∀ j, j < ags.length → letterS (refD op) (j : Int) ≠ 0 ∧ (ags.getD j zeroA).kind = kindS (letterS (refD op) (j : Int))) : badI (refD op) 0 (ags.map ArgP.kind) = none := by
  refine badI_none fun j hj => ?_
  simp only [List.length_map] at hj
  have hh := h j hj
  have e : (ags.map ArgP.kind)[j]'(by simpa using hj) = (ags.getD j zeroA).kind := by simp [List.getD, hj]
  rw [e, hh.2, Nat.zero_add]
  intro hb
  rcases hb with hb | hb
  · exact refD_kind op j hh.1 hb
  · exact hb rfl
def wholeE (op : Int) (ags : List ArgP) : Int := if (fitsS op (ags.map ArgP.kind)).2 = true then 0 else 42
theorem wholeE_of {op : Int} {ags : List ArgP} (hob : (refS op).isSome = true) (h : badI (refD op) 0 (ags.map ArgP.kind) = none) : wholeE op ags = if offR (refD op) ags.length then 42 else 0 := by
  unfold wholeE
  rw [fits_yes (fm := refD op) hob rfl rfl]
  by_cases ho : offR (refD op) ags.length
  · rw [fitsF_off h (by rwa [List.length_map]), if_pos ho]; rfl
  · rw [fitsF_on h (by rwa [List.length_map]), if_neg ho]; rfl
def b2n (b : Bool) : Nat := if b = true then 1 else 0
def headsF (fm : FormL) (l : List Int) (bound : Int) : Nat × Int :=
  if fm.ty = true ∧ l.length = 0 then (0, 40)
  else if fm.ty = true ∧ idE (l.getD 0 0) bound ≠ 0 then (0, 43)
  else if fm.res = true ∧ l.length = b2n fm.ty then (0, 41)
  else if fm.res = true ∧ idE (l.getD (b2n fm.ty) 0) bound ≠ 0 then (0, 43)
  else (b2n fm.ty + b2n fm.res, 0)
def zeroIL : InstL := ⟨0, 0, 0, []⟩
def argW (a : ArgP) : List Int := if a.kind = 3 then ofTextL a.s else [a.n]
def argRoom (a : ArgP) : Nat := if a.kind = 3 then a.s.length / 4 + 1 else 1
def wrongA (c : Int) (a : ArgP) (bound : Int) : Int :=
  if c = 0 ∨ a.kind ≠ kindS c then 42
  else if (a.kind = 3 ∧ a.n ≠ 0) ∨ (a.kind ≠ 3 ∧ a.s ≠ []) then 42
  else if a.kind = 1 ∧ idE a.n bound ≠ 0 then 43
  else if a.kind = 4 ∧ enumE c a.n ≠ 0 then 31
  else if zeroAt a.s ≠ a.s.length then 13 else 0
def idH (must : Bool) (n bound e : Int) : Int := if must ≠ decide (n ≠ 0) then e else if must = true ∧ n ≥ bound then 43 else 0
def wrongL (fm : FormL) (bound : Int) : Nat → List ArgP → Int
  | _, [] => 0
  | k, a :: ags => if wrongA (letterS fm k) a bound ≠ 0 then wrongA (letterS fm k) a bound else wrongL fm bound (k + 1) ags
def headW (fm : FormL) (ty res : Int) : List Int := (if fm.ty = true then [ty] else []) ++ (if fm.res = true then [res] else [])
def roomI (fm : FormL) (ags : List ArgP) : Nat := 1 + (b2n fm.ty + b2n fm.res) + (ags.map argRoom).sum
def faultF (bound : Int) (i : InstL) : Int :=
  if (refS i.op).isSome = false then 30
  else if idH (refD i.op).ty i.ty bound 40 ≠ 0 then idH (refD i.op).ty i.ty bound 40
  else if idH (refD i.op).res i.res bound 41 ≠ 0 then idH (refD i.op).res i.res bound 41
  else if wrongL (refD i.op) bound 0 i.args ≠ 0 then wrongL (refD i.op) bound 0 i.args
  else if offR (refD i.op) i.args.length then 42
  else if roomI (refD i.op) i.args > 65535 then 25 else 0
def wordsI (fm : FormL) (i : InstL) : List Int := headW fm i.ty i.res ++ i.args.flatMap argW
def rawF (bound : Int) (i : InstL) : RawL × Int := if faultF bound i ≠ 0 then ((0, []), faultF bound i) else ((i.op, wordsI (refD i.op) i), 0)
end Go.SK
namespace Go.SK
def instS (fm : FormL) (bound : Int) (l : List Int) : List ArgP × Int :=
  if (headsF fm l bound).2 ≠ 0 then ([], (headsF fm l bound).2) else argsR fm bound 0 (l.drop (b2n fm.ty + b2n fm.res))
section
variable {fm : FormL} {bound op : Int} {l : List Int}
theorem instS_head (h : (headsF fm l bound).2 ≠ 0) : instS fm bound l = ([], (headsF fm l bound).2) := if_pos h
theorem instS_args (h : (headsF fm l bound).2 = 0) : instS fm bound l = argsR fm bound 0 (l.drop (b2n fm.ty + b2n fm.res)) := if_neg (fun e => e h)
theorem ite_ne_zero_self {α : Type} {x y : α} : (if (0 : Int) ≠ 0 then x else y) = y := if_neg (fun h => h rfl)
def H1 (fm : FormL) (l : List Int) (bound : Int) (a : Nat) (ty e : Int) : Prop := a ≤ l.length ∧ (e = 0 → a = b2n fm.ty ∧ ty = (if fm.ty = true then l.getD 0 0 else 0) ∧ ¬ (fm.ty = true ∧ l.length = 0) ∧ ¬ (fm.ty = true ∧ idE (l.getD 0 0) bound ≠ 0)) ∧ (e ≠ 0 → (headsF fm l bound).2 = e)
theorem H1.no (h : fm.ty = false) : H1 fm l bound 0 0 0 := ⟨Nat.zero_le _, fun _ => ⟨by rw [b2n, h]; rfl, by rw [h]; rfl, by rw [h]; simp, by rw [h]; simp⟩, fun h => absurd rfl h⟩
theorem H1.lacks (h : fm.ty = true) (hl : l.length = 0) : H1 fm l bound 0 0 40 := ⟨Nat.zero_le _, fun hx => absurd hx (by decide), fun _ => by unfold headsF; rw [if_pos ⟨h, hl⟩]⟩
theorem H1.word (h : fm.ty = true) (hl : 0 < l.length) : H1 fm l bound 1 (l.getD 0 0) (idE (l.getD 0 0) bound) := by
  refine ⟨hl, fun he => ⟨by rw [b2n, h]; rfl, by rw [h]; rfl, fun h2 => by omega, fun h2 => h2.2 he⟩, fun he => ?_⟩
  have h43 : idE (l.getD 0 0) bound = 43 := by
    unfold idE at he ⊢; split
    · rfl
    · rename_i hn; rw [if_neg hn] at he; exact absurd rfl he
  unfold headsF
  rw [if_neg (fun h2 => by omega), if_pos ⟨h, he⟩, h43]
def H2 (fm : FormL) (l : List Int) (bound : Int) (a : Nat) (ty res e : Int) : Prop := a ≤ l.length ∧ (e = 0 → (headsF fm l bound).2 = 0 ∧ a = b2n fm.ty + b2n fm.res ∧ ty = (if fm.ty = true then l.getD 0 0 else 0) ∧ res = (if fm.res = true then l.getD (b2n fm.ty) 0 else 0)) ∧ (e ≠ 0 → (headsF fm l bound).2 = e)
theorem H2.err {a : Nat} {ty e : Int} (h : H1 fm l bound a ty e) (he : e ≠ 0) : H2 fm l bound a ty 0 e := ⟨h.1, fun h2 => absurd h2 he, h.2.2⟩
theorem H2.no {a : Nat} {ty e : Int} (h : H1 fm l bound a ty e) (hr : fm.res = false) (he : e = 0) : H2 fm l bound a ty 0 e := by
  have h1 := h.2.1 he
  refine ⟨h.1, fun _ => ⟨?_, by rw [b2n.eq_def fm.res, hr]; exact h1.1, h1.2.1, by rw [hr]; rfl⟩, fun h2 => absurd he h2⟩
  unfold headsF
  rw [if_neg h1.2.2.1, if_neg h1.2.2.2, if_neg (by rw [hr]; simp), if_neg (by rw [hr]; simp)]
theorem H2.lacks {a : Nat} {ty : Int} (h : H1 fm l bound a ty 0) (hr : fm.res = true) (hl : a = l.length) : H2 fm l bound a ty 0 41 := by
  have h1 := h.2.1 rfl
  refine ⟨h.1, fun hx => absurd hx (by decide), fun _ => ?_⟩
  unfold headsF
  rw [if_neg h1.2.2.1, if_neg h1.2.2.2, if_pos ⟨hr, by omega⟩]
theorem H2.word {a : Nat} {ty : Int} (h : H1 fm l bound a ty 0) (hr : fm.res = true) (hl : a < l.length) : H2 fm l bound (a + 1) ty (l.getD a 0) (idE (l.getD a 0) bound) := by
  have h1 := h.2.1 rfl
  have ha := h1.1
  subst ha
  refine ⟨hl, fun he => ⟨?_, by rw [b2n.eq_def fm.res, hr]; rfl, h1.2.1, by rw [hr]; rfl⟩, fun he => ?_⟩
  · unfold headsF
    rw [if_neg h1.2.2.1, if_neg h1.2.2.2, if_neg (fun h2 => by omega), if_neg (fun h2 => h2.2 he)]
  · have h43 : idE (l.getD (b2n fm.ty) 0) bound = 43 := by
      unfold idE at he ⊢; split
      · rfl
      · rename_i hn; rw [if_neg hn] at he; exact absurd rfl he
    unfold headsF
    rw [if_neg h1.2.2.1, if_neg h1.2.2.2, if_neg (fun h2 => by omega), if_pos ⟨hr, he⟩, h43]
theorem H2.zero {a : Nat} {ty res e : Int} (h : H2 fm l bound a ty res e) (hs : (instS fm bound l).2 = 0) : e = 0 := Classical.byContradiction fun he => by
  have h1 := h.2.2 he
  rw [instS_head (by rw [h1]; exact he), h1] at hs
  exact he hs
def A1 (fm : FormL) (l : List Int) (bound : Int) (a : Nat) (e : Int) (ags : List ArgP) : Prop := a ≤ l.length ∧ ags.length ≤ a + 1 ∧ (e = 0 → ags.length ≤ a ∧ ags ++ (argsR fm bound ags.length (l.drop a)).1 = (instS fm bound l).1 ∧ (argsR fm bound ags.length (l.drop a)).2 = (instS fm bound l).2) ∧ (e ≠ 0 → (instS fm bound l).2 = e)
theorem A1.start {a : Nat} {ty res e : Int} (h : H2 fm l bound a ty res e) : A1 fm l bound a e [] := by
  refine ⟨h.1, Nat.zero_le _, fun he => ⟨Nat.zero_le _, ?_⟩, fun he => ?_⟩
  · have h1 := h.2.1 he
    rw [instS_args h1.1, ← h1.2.1]
    exact ⟨rfl, rfl⟩
  · have h1 := h.2.2 he
    rw [instS_head (by rw [h1]; exact he), h1]
theorem A1.step {a a2 : Nat} {ags ags2 : List ArgP} {c : Int} (h : A1 fm l bound a 0 ags) (hc : letterS fm (ags.length : Int) = c) (hgo : l.length - a > 0 ∨ ags.length < fm.fixed.length)
    (hE : (argE c (l.drop a) bound).2.2 = 0 → a2 = a + (argE c (l.drop a) bound).2.1 ∧ ags2 = ags ++ [(argE c (l.drop a) bound).1]) (ha2 : a2 ≤ l.length) (hn : ags2.length ≤ ags.length + 1) (hle : a ≤ a2 ∨ (argE c (l.drop a) bound).2.2 = 0) : A1 fm l bound a2 (argE c (l.drop a) bound).2.2 ags2 := by
  subst hc
  have h1 := h.2.2.1 rfl
  refine ⟨ha2, ?_, fun he => ?_, fun he => ?_⟩
  · rcases hle with hh | hh
    · omega
    · have := hE hh; omega
  · have h2 := hE he
    have h3 := argE_ok he
    have hs := argsR_step (fm := fm) (bound := bound) (k := ags.length) (ws := l.drop a) (a := (argE (letterS fm ags.length) (l.drop a) bound).1) (m := (argE (letterS fm ags.length) (l.drop a) bound).2.1) (by rw [List.length_drop]; omega) (by rw [← he])
    rw [List.drop_drop] at hs
    rw [h2.1, h2.2, List.length_append, List.length_singleton]
    rw [hs] at h1
    exact ⟨by omega, by rw [List.append_assoc]; exact h1.2.1, h1.2.2⟩
  · rw [← h1.2.2, argsR_err (by rw [List.length_drop]; omega) he]
def A1mu (n a : Nat) (e : Int) : Nat := if e = 0 then n - a + 1 else 0
theorem A1mu.step {n a a2 : Nat} {e2 : Int} (h : e2 = 0 → a < a2 ∧ a2 ≤ n) : A1mu n a2 e2 < A1mu n a 0 := by
  unfold A1mu
  rw [if_pos rfl]
  split
  · rename_i he; have := h he; omega
  · omega
end
end Go.SK
namespace Go.SK
section
variable {fm : FormL} {bound : Int} {l : List Int}
theorem A1.err {a : Nat} {ags : List ArgP} {c e : Int} (h : A1 fm l bound a 0 ags) (hc : letterS fm (ags.length : Int) = c) (hgo : l.length - a > 0 ∨ ags.length < fm.fixed.length) (hE : (argE c (l.drop a) bound).2.2 = e) (he : e ≠ 0) : (instS fm bound l).2 = e := by
  subst hc
  have h1 := h.2.2.1 rfl
  rw [← h1.2.2, argsR_err (by rw [List.length_drop]; omega) (by rw [hE]; exact he), hE]
end
end Go.SK
namespace Go.SK
open Go.RowKit Go.ChangeShapes Go.WideShapes Go.ChangeAt
abbrev WrC (Tc Tw : TypeId) (bq : Nat) (fm : FormL) (bound : Int) (ao : Option Addr) (cp : Nat) (ws : List Int) (room : Int) : Res :=
  Res.star [Res.row bq Tc [.int .u16 fm.op, str fm.name, .bool fm.ty, .bool fm.res, str fm.fixed, str fm.rest, .int .i64 fm.most, .int .u8 fm.part, .int .u32 bound, .slice ao ws.length cp, .int .i64 room], Res.sl ao ws.length cp Tw 1 (ws.flatMap u32C)]
def mustW (must : Bool) (n : Int) : List Int := if must = true then [n] else []
theorem idH_lacks {must : Bool} {n bound e : Int} (h : must ≠ decide (n ≠ 0)) : idH must n bound e = e := if_pos h
theorem idH_no {must : Bool} {n bound e : Int} (h : ¬ must ≠ decide (n ≠ 0)) (hm : must = false) : idH must n bound e = 0 := by unfold idH; rw [if_neg h, if_neg (by rw [hm]; simp)]
theorem idH_id {must : Bool} {n bound e : Int} (h : ¬ must ≠ decide (n ≠ 0)) (hm : must = true) : idH must n bound e = idE n bound := by
  subst hm
  have hn : n ≠ 0 := by
    intro e; apply h; subst e; decide
  unfold idH idE
  rw [if_neg h]
  by_cases hb : n ≥ bound
  · rw [if_pos ⟨rfl, hb⟩, if_pos (.inr hb)]
  · rw [if_neg (fun hx => hb hx.2), if_neg (fun hx => hx.elim hn hb)]
def textE (s : List UInt8) : Int := if zeroAt s ≠ s.length then 13 else 0
theorem ofText_len {s : List UInt8} (h : ofTextE s = 0) : (ofTextL s).length = s.length / 4 + 1 := by
  rw [ofTextL_ok h, splitW_len, padded_len]; omega
theorem ofText_le (s : List UInt8) : (ofTextL s).length ≤ s.length / 4 + 1 := by
  by_cases h : ofTextE s = 0
  · rw [ofText_len h]; exact Nat.le_refl _
  · rw [ofTextL_err h]; exact Nat.zero_le _
section
variable {c bound : Int} {a : ArgP}
theorem wrongA_form (h : c = 0 ∨ a.kind ≠ kindS c ∨ (a.kind = 3 ∧ a.n ≠ 0) ∨ (a.kind ≠ 3 ∧ a.s ≠ [])) : wrongA c a bound = 42 := by
  unfold wrongA
  by_cases h1 : c = 0 ∨ a.kind ≠ kindS c
  · rw [if_pos h1]
  · rw [if_neg h1]
    rcases h with h | h | h
    · exact absurd (.inl h) h1
    · exact absurd (.inr h) h1
    · rw [if_pos h]
theorem wrongA_text (h : ¬ c = 0) (hk : ¬ a.kind ≠ kindS c) (h3 : a.kind = 3) (hn : ¬ a.n ≠ 0) : wrongA c a bound = textE a.s := by
  unfold wrongA
  rw [if_neg (fun hx => hx.elim h hk), if_neg (fun hx => hx.elim (fun hy => hn hy.2) (fun hy => hy.1 h3)), if_neg (by omega), if_neg (by omega)]
  rfl
theorem wrongA_one (h : ¬ c = 0) (hk : ¬ a.kind ≠ kindS c) (h3 : ¬ a.kind = 3) (hs : ¬ a.s ≠ []) : wrongA c a bound = if a.kind = 1 then idE a.n bound else if a.kind = 4 then enumE c a.n else 0 := by
  have hs0 : a.s = [] := Classical.not_not.1 hs
  have hz : ¬ zeroAt a.s ≠ a.s.length := by rw [hs0]; simp [zeroAt]
  unfold wrongA
  rw [if_neg (fun hx => hx.elim h hk), if_neg (fun hx => hx.elim (fun hy => h3 hy.1) (fun hy => hs hy.2))]
  by_cases k1 : a.kind = 1
  · rw [if_pos k1]
    by_cases he : idE a.n bound = 0
    · rw [if_neg (fun hx => hx.2 he), if_neg (by omega), if_neg hz, he]
    · rw [if_pos ⟨k1, he⟩]
      unfold idE at he ⊢; split
      · rfl
      · rename_i hn; rw [if_neg hn] at he; exact absurd rfl he
  · rw [if_neg k1, if_neg (fun hx => k1 hx.1)]
    by_cases k4 : a.kind = 4
    · rw [if_pos k4]
      by_cases he : enumE c a.n = 0
      · rw [if_neg (fun hx => hx.2 he), if_neg hz, he]
      · rw [if_pos ⟨k4, he⟩]
        unfold enumE at he ⊢; split
        · rename_i hn; rw [if_pos hn] at he; exact absurd rfl he
        · rfl
    · rw [if_neg k4, if_neg (fun hx => k4 hx.1), if_neg hz]
theorem argW_text (h : a.kind = 3) : argW a = ofTextL a.s ∧ argRoom a = a.s.length / 4 + 1 := by unfold argW argRoom; rw [if_pos h, if_pos h]; exact ⟨rfl, rfl⟩
theorem argW_one (h : ¬ a.kind = 3) : argW a = [a.n] ∧ argRoom a = 1 := by unfold argW argRoom; rw [if_neg h, if_neg h]; exact ⟨rfl, rfl⟩
end
end Go.SK
namespace Go.SK
open Go.RowKit Go.ChangeShapes Go.WideShapes Go.ChangeAt
section
variable {bound : Int} {i : InstL}
theorem faultF_op (h : (refS i.op).isSome = false) : faultF bound i = 30 := if_pos h
theorem faultF_eq (h : (refS i.op).isSome = true) : faultF bound i = if idH (refD i.op).ty i.ty bound 40 ≠ 0 then idH (refD i.op).ty i.ty bound 40
  else if idH (refD i.op).res i.res bound 41 ≠ 0 then idH (refD i.op).res i.res bound 41
  else if wrongL (refD i.op) bound 0 i.args ≠ 0 then wrongL (refD i.op) bound 0 i.args
  else if offR (refD i.op) i.args.length then 42
  else if roomI (refD i.op) i.args > 65535 then 25 else 0 := by
  unfold faultF; rw [if_neg (by rw [h]; decide)]
theorem wrongL_app {fm : FormL} {ys : List ArgP} : ∀ (xs : List ArgP) (k : Nat), wrongL fm bound k (xs ++ ys) = if wrongL fm bound k xs ≠ 0 then wrongL fm bound k xs else wrongL fm bound (k + xs.length) ys
  | [], k => by simp [wrongL]
  | x :: xs, k => by
    rw [List.cons_append, wrongL, wrongL]
    by_cases h : wrongA (letterS fm k) x bound ≠ 0
    · rw [if_pos h, if_pos h, if_pos h]
    · rw [if_neg h, if_neg h, wrongL_app xs (k + 1), List.length_cons, show k + 1 + xs.length = k + (xs.length + 1) by omega]
theorem wrongL_take {fm : FormL} {l : List ArgP} {k : Nat} (hk : k < l.length) (h : wrongL fm bound 0 (l.take k) = 0) : (wrongL fm bound 0 (l.take (k + 1)) = wrongA (letterS fm (k : Int)) (l.getD k zeroA) bound) ∧ (wrongA (letterS fm (k : Int)) (l.getD k zeroA) bound ≠ 0 → wrongL fm bound 0 l = wrongA (letterS fm (k : Int)) (l.getD k zeroA) bound) := by
  have hl : (l.take k).length = k := by rw [List.length_take]; omega
  constructor
  · rw [take_getD2 (d := zeroA) hk, wrongL_app, if_neg (fun e => e h), hl, Nat.zero_add, wrongL]
    by_cases he : wrongA (letterS fm (k : Int)) (l.getD k zeroA) bound ≠ 0
    · rw [if_pos he]
    · rw [if_neg he, wrongL, Classical.not_not.1 he]
  · intro he
    have e : l = l.take k ++ (l.getD k zeroA :: l.drop (k + 1)) := by
      have := List.take_append_drop k l
      rw [List.drop_eq_getElem_cons hk] at this
      simp only [List.getD, List.getElem?_eq_getElem hk, Option.getD_some]
      exact this.symm
    conv => lhs; rw [e]
    rw [wrongL_app, if_neg (fun e => e h), hl, Nat.zero_add, wrongL, if_pos he]
theorem wrongL_kinds {fm : FormL} : ∀ (l : List ArgP) (k : Nat), wrongL fm bound k l = 0 → ∀ j, j < l.length → letterS fm ((k + j : Nat) : Int) ≠ 0 ∧ (l.getD j zeroA).kind = kindS (letterS fm ((k + j : Nat) : Int))
  | [], k, _, j, hj => by simp at hj
  | x :: l, k, h, j, hj => by
    rw [wrongL] at h
    split at h
    · rename_i h1; exact absurd h h1
    · rename_i h1
      cases j with
      | zero =>
        have h2 := Classical.not_not.1 h1
        unfold wrongA at h2
        split at h2
        · cases h2
        · rename_i h3
          rw [Nat.add_zero]
          exact ⟨fun e => h3 (.inl e), Classical.not_not.1 fun e => h3 (.inr (by simpa using e))⟩
      | succ j =>
        have := wrongL_kinds l (k + 1) h j (by simpa using hj)
        rw [show k + 1 + j = k + (j + 1) by omega] at this
        simpa using this
theorem wrongL_none {op : Int} {l : List ArgP} (h : wrongL (refD op) bound 0 l = 0) : badI (refD op) 0 (l.map ArgP.kind) = none :=
  kinds_none fun j hj => by
    have := wrongL_kinds l 0 h j hj
    rwa [Nat.zero_add] at this
def sumR (l : List ArgP) (k : Nat) : Nat := ((l.take k).map argRoom).sum
theorem sumR_step {l : List ArgP} {k : Nat} (hk : k < l.length) : sumR l (k + 1) = sumR l k + argRoom (l.getD k zeroA) := by
  unfold sumR; rw [take_getD2 (d := zeroA) hk]; simp
theorem sumR_le {l : List ArgP} {k : Nat} : sumR l k ≤ (l.map argRoom).sum := by
  have := congrArg (fun l : List ArgP => (l.map argRoom).sum) (List.take_append_drop k l)
  simp only [List.map_append, List.sum_append] at this
  unfold sumR; omega
theorem argRoom_pos (a : ArgP) : 1 ≤ argRoom a := by unfold argRoom; split <;> omega
theorem len_sum : ∀ l : List ArgP, l.length ≤ (l.map argRoom).sum
  | [] => Nat.le_refl _
  | a :: l => by have := len_sum l; have := argRoom_pos a; simp only [List.length_cons, List.map_cons, List.sum_cons]; omega
structure RW (bound : Int) (i : InstL) (k : Nat) (ws : List Int) (room e : Int) : Prop where
  ok : e = 0 → idH (refD i.op).ty i.ty bound 40 = 0 ∧ idH (refD i.op).res i.res bound 41 = 0 ∧ wrongL (refD i.op) bound 0 (i.args.take k) = 0 ∧ ws = headW (refD i.op) i.ty i.res ++ (i.args.take k).flatMap argW ∧ room = ((b2n (refD i.op).ty + b2n (refD i.op).res + sumR i.args k : Nat) : Int)
  err : e ≠ 0 → faultF bound i = e
  len : ws.length ≤ 2 + sumR i.args k
  r0 : 0 ≤ room
  r1 : room ≤ 2 + (sumR i.args k : Int)
theorem RW.ty (hs : (refS i.op).isSome = true) {ws : List Int} {room : Int} (he : idH (refD i.op).ty i.ty bound 40 ≠ 0) (hl : ws.length ≤ 0 + 1) (h0 : 0 ≤ room) (h1 : room ≤ 0 + 1) : RW bound i 0 ws room (idH (refD i.op).ty i.ty bound 40) :=
  ⟨fun h => absurd h he, fun _ => by rw [faultF_eq hs, if_pos he], by omega, h0, by omega⟩
theorem RW.start {ws2 : List Int} {room2 : Int} (hs : (refS i.op).isSome = true) (h1 : idH (refD i.op).ty i.ty bound 40 = 0)
    (h2 : idH (refD i.op).res i.res bound 41 = 0 → ws2 = ([] ++ mustW (refD i.op).ty i.ty) ++ mustW (refD i.op).res i.res ∧ room2 = 0 + b2n (refD i.op).ty + b2n (refD i.op).res) (hl : ws2.length ≤ 2) (h0 : 0 ≤ room2) (hr : room2 ≤ 2) : RW bound i 0 ws2 room2 (idH (refD i.op).res i.res bound 41) := by
  refine ⟨fun he => ?_, fun he => by rw [faultF_eq hs, if_neg (fun e => e h1), if_pos he], by omega, h0, by omega⟩
  obtain ⟨e1, e2⟩ := h2 he
  refine ⟨h1, he, rfl, ?_, ?_⟩
  · rw [e1]; simp [headW, mustW]
  · rw [e2]; simp [sumR]
theorem RW.skip {k : Nat} {ws : List Int} {room e : Int} (h : RW bound i k ws room e) (he : e ≠ 0) (hk : k < i.args.length) : RW bound i (k + 1) ws room e := by
  have hs := sumR_step hk
  exact ⟨fun h2 => absurd h2 he, h.err, by have := h.len; omega, h.r0, by have := h.r1; omega⟩
theorem RW.step {k : Nat} {ws ws2 : List Int} {room room2 : Int} (h : RW bound i k ws room 0) (hs : (refS i.op).isSome = true) (hk : k < i.args.length)
    (hE : wrongA (letterS (refD i.op) (k : Int)) (i.args.getD k zeroA) bound = 0 → ws2 = ws ++ argW (i.args.getD k zeroA) ∧ room2 = room + (argRoom (i.args.getD k zeroA) : Int)) (hl : ws2.length ≤ ws.length + argRoom (i.args.getD k zeroA)) (h0 : 0 ≤ room2) (hr : room2 ≤ room + (argRoom (i.args.getD k zeroA) : Int)) :
    RW bound i (k + 1) ws2 room2 (wrongA (letterS (refD i.op) (k : Int)) (i.args.getD k zeroA) bound) := by
  have hsum := sumR_step hk
  have ho := h.ok rfl
  have ht := wrongL_take hk ho.2.2.1
  refine ⟨fun he => ?_, fun he => ?_, by have := h.len; omega, h0, by have := h.r1; omega⟩
  · obtain ⟨e1, e2⟩ := hE he
    refine ⟨ho.1, ho.2.1, ht.1.trans he, ?_, ?_⟩
    · rw [e1, ho.2.2.2.1, take_getD2 (d := zeroA) hk]; simp
    · rw [e2, ho.2.2.2.2, hsum]; omega
  · rw [faultF_eq hs, if_neg (fun e => e ho.1), if_neg (fun e => e ho.2.1), if_pos (by rw [ht.2 he]; exact he), ht.2 he]
theorem RW.full {ws : List Int} {room : Int} (h : RW bound i i.args.length ws room 0) (hs : (refS i.op).isSome = true) : ws = wordsI (refD i.op) i ∧ room + 1 = (roomI (refD i.op) i.args : Int) ∧ faultF bound i = if wholeE i.op i.args ≠ 0 then wholeE i.op i.args else if roomI (refD i.op) i.args > 65535 then 25 else 0 := by
  have ho := h.ok rfl
  rw [List.take_length] at ho
  refine ⟨ho.2.2.2.1, ?_, ?_⟩
  · rw [ho.2.2.2.2]; unfold sumR roomI; rw [List.take_length]; omega
  · rw [faultF_eq hs, if_neg (fun e => e ho.1), if_neg (fun e => e ho.2.1), if_neg (fun e => e ho.2.2.1), wholeE_of hs (wrongL_none ho.2.2.1)]
    by_cases hf : offR (refD i.op) i.args.length
    · rw [if_pos hf, if_pos hf, if_pos (by decide)]
    · rw [if_neg hf, if_neg hf, ite_ne_zero_self]
theorem rawF_err {e : Int} (h : faultF bound i = e) (he : e ≠ 0) : rawF bound i = ((0, []), e) := by unfold rawF; rw [h, if_pos he]
theorem rawF_ok (h : faultF bound i = 0) : rawF bound i = ((i.op, wordsI (refD i.op) i), 0) := by unfold rawF; rw [if_neg (fun e => e h)]
end
end Go.SK
namespace Go.SK
open Go.RowKit Go.ChangeShapes Go.WideShapes Go.ChangeAt
section
variable {bound : Int}
theorem rawF_fault {i : InstL} : (rawF bound i).2 = faultF bound i := by
  unfold rawF; split
  · rfl
  · rename_i h; exact (Classical.not_not.1 h).symm
end
end Go.SK
namespace Go.SK
theorem Wd.app {l m : List Int} (h1 : Wd l) (h2 : Wd m) : Wd (l ++ m) := fun x hx => (List.mem_append.1 hx).elim (h1 x) (h2 x)
theorem Wd.nil : Wd [] := fun x hx => by cases hx
theorem Wd.one {x : Int} (h : 0 ≤ x ∧ x < 4294967296) : Wd [x] := fun y hy => by cases hy with
  | head => exact h
  | tail _ h => cases h
end Go.SK
namespace Go.SK
open Go.RowKit Go.ChangeShapes Go.WideShapes Go.ChangeAt
abbrev DecL := (Int × Int × List InstL) × (Int × Int)
end Go.SK
namespace Go.SK
open Go.RowKit Go.ChangeShapes Go.WideShapes Go.ChangeAt
def oneL : List InstL := [⟨128, 1, 2, [⟨1, 3, []⟩, ⟨1, 4, []⟩]⟩]
structure Small (l : List InstP) : Prop where
  len : l.length ≤ 3000000000000
  op : ∀ i ∈ l, 0 ≤ i.op
  op2 : ∀ i ∈ l, i.op < 65536
  sum : ∀ i ∈ l, (i.args.map argRoom).sum ≤ 900000000
  txt : ∀ i ∈ l, ∀ a ∈ i.args, a.s.length ≤ 100000000000
theorem Small.args {l : List InstP} (h : Small l) : ∀ i ∈ l, i.args.length ≤ 900000000 := fun i hi => Nat.le_trans (len_sum i.args) (h.sum i hi)
theorem Small.of {l m : List InstP} (h : l.map InstP.L = m.map InstP.L) (hm : Small m) : Small l := by
  have key : ∀ i ∈ l, ∃ j ∈ m, j.op = i.op ∧ j.args = i.args := fun i hi => by
    have : i.L ∈ m.map InstP.L := h ▸ List.mem_map_of_mem hi
    obtain ⟨j, hj, he⟩ := List.mem_map.1 this
    exact ⟨j, hj, congrArg InstL.op he, congrArg InstL.args he⟩
  refine ⟨by rw [insts_len h]; exact hm.len, fun i hi => ?_, fun i hi => ?_, fun i hi => ?_, fun i hi => ?_⟩ <;> obtain ⟨j, hj, h1, h2⟩ := key i hi
  · rw [← h1]; exact hm.op j hj
  · rw [← h1]; exact hm.op2 j hj
  · rw [← h2]; exact hm.sum j hj
  · rw [← h2]; exact hm.txt j hj
theorem Small.one {l : List InstP} (h : l.map InstP.L = oneL) : Small l :=
  Small.of (m := [⟨128, 1, 2, none, 0, [⟨1, 3, []⟩, ⟨1, 4, []⟩]⟩]) h ⟨by decide, by decide, by decide, by decide, by decide⟩
end Go.SK
namespace Go.SK
open Go.RowKit Go.ChangeShapes Go.WideShapes Go.ChangeAt
abbrev SQ := @run_seq
abbrev RG := @run_region
abbrev NL := @RunL.nil
abbrev CN := @RunL.cons
abbrev TK := @RunL.take
abbrev OM := @RunL.omit
abbrev TP := @RV.tmp
section
variable {P : Program} {b : Base} {k : List Item} {f : Nat → Value} {w : World} {E : Frame → World → Prop} {ops : Array Oper} {l : List Oper} {d : Option Tmp} {ty : TypeId} {pos : String} {aft : Array Edge} {x : Operand}
theorem SR {id : Nat} {y : Code} (h : RunL P b l.toArray l (.code y :: k) f w E) : Run P b (.code (.seq (.region id l.toArray false) y) :: k) f w E := run_seq (run_region h)
theorem NSR {l2 : List Oper} {id : Nat} {y : Code} (h : RunL P b l2.toArray l2 (.code y :: k) f w E) : RunL P b ops [] (.code (.seq (.region id l2.toArray false) y) :: k) f w E := RunL.nil (run_seq (run_region h))
theorem NR {l2 : List Oper} {id : Nat} (h : RunL P b l2.toArray l2 k f w E) : RunL P b ops [] (.code (.region id l2.toArray false) :: k) f w E := RunL.nil (run_region h)
abbrev mvO (x : Operand) (d : Option Tmp) (ty : TypeId) (pos : String) (aft : Array Edge) : Oper := { dst := d, op := .move x, type := ty, pos := pos, after := aft, guard := none }
abbrev asO (x : Operand) (d : Option Tmp) (ty : TypeId) (pos : String) (aft : Array Edge) : Oper := { dst := d, op := .assign x, type := ty, pos := pos, after := aft, guard := none }
theorem MI {a : Int} (h : ev b.n f x = .int .i64 a) (hk : RunL P b ops l k (putF f d (.int .i64 a)) w E) : RunL P b ops (mvO x d ty pos aft :: l) k f w E := RunL.cons (Op1.move h hk)
theorem AI {a : Int} (h : ev b.n f x = .int .i64 a) (hk : RunL P b ops l k (putF f d (.int .i64 a)) w E) : RunL P b ops (asO x d ty pos aft :: l) k f w E := RunL.cons (Op1.assign h hk)
theorem MU {a : Int} (h : ev b.n f x = .int .u32 a) (hk : RunL P b ops l k (putF f d (.int .u32 a)) w E) : RunL P b ops (mvO x d ty pos aft :: l) k f w E := RunL.cons (Op1.move h hk)
theorem AU {a : Int} (h : ev b.n f x = .int .u32 a) (hk : RunL P b ops l k (putF f d (.int .u32 a)) w E) : RunL P b ops (asO x d ty pos aft :: l) k f w E := RunL.cons (Op1.assign h hk)
theorem MH {a : Int} (h : ev b.n f x = .int .u16 a) (hk : RunL P b ops l k (putF f d (.int .u16 a)) w E) : RunL P b ops (mvO x d ty pos aft :: l) k f w E := RunL.cons (Op1.move h hk)
theorem AH {a : Int} (h : ev b.n f x = .int .u16 a) (hk : RunL P b ops l k (putF f d (.int .u16 a)) w E) : RunL P b ops (asO x d ty pos aft :: l) k f w E := RunL.cons (Op1.assign h hk)
theorem MC {a : Int} (h : ev b.n f x = .int .u8 a) (hk : RunL P b ops l k (putF f d (.int .u8 a)) w E) : RunL P b ops (mvO x d ty pos aft :: l) k f w E := RunL.cons (Op1.move h hk)
theorem AC {a : Int} (h : ev b.n f x = .int .u8 a) (hk : RunL P b ops l k (putF f d (.int .u8 a)) w E) : RunL P b ops (asO x d ty pos aft :: l) k f w E := RunL.cons (Op1.assign h hk)
theorem MB {a : Bool} (h : ev b.n f x = .bool a) (hk : RunL P b ops l k (putF f d (.bool a)) w E) : RunL P b ops (mvO x d ty pos aft :: l) k f w E := RunL.cons (Op1.move h hk)
theorem AB {a : Bool} (h : ev b.n f x = .bool a) (hk : RunL P b ops l k (putF f d (.bool a)) w E) : RunL P b ops (asO x d ty pos aft :: l) k f w E := RunL.cons (Op1.assign h hk)
theorem MS {a : List UInt8} (h : ev b.n f x = str a) (hk : RunL P b ops l k (putF f d (str a)) w E) : RunL P b ops (mvO x d ty pos aft :: l) k f w E := RunL.cons (Op1.move h hk)
theorem AS {a : List UInt8} (h : ev b.n f x = str a) (hk : RunL P b ops l k (putF f d (str a)) w E) : RunL P b ops (asO x d ty pos aft :: l) k f w E := RunL.cons (Op1.assign h hk)
theorem ML {a : Option Addr} {n c : Nat} (h : ev b.n f x = .slice a n c) (hk : RunL P b ops l k (putF f d (.slice a n c)) w E) : RunL P b ops (mvO x d ty pos aft :: l) k f w E := RunL.cons (Op1.move h hk)
theorem AL {a : Option Addr} {n c : Nat} (h : ev b.n f x = .slice a n c) (hk : RunL P b ops l k (putF f d (.slice a n c)) w E) : RunL P b ops (asO x d ty pos aft :: l) k f w E := RunL.cons (Op1.assign h hk)
theorem MP {a c : Nat} (h : ev b.n f x = .pointer (some ⟨a, c, none⟩)) (hk : RunL P b ops l k (putF f d (.pointer (some ⟨a, c, none⟩))) w E) : RunL P b ops (mvO x d ty pos aft :: l) k f w E := RunL.cons (Op1.move h hk)
theorem AP {a c : Nat} (h : ev b.n f x = .pointer (some ⟨a, c, none⟩)) (hk : RunL P b ops l k (putF f d (.pointer (some ⟨a, c, none⟩))) w E) : RunL P b ops (asO x d ty pos aft :: l) k f w E := RunL.cons (Op1.assign h hk)
end
section
variable {P : Program} {ty : TypeId} {ρ : Operand → Value} {w0 w : World} {C : Value → World → Prop} {M : Nat → Prop} {L L' D : List Res} {T T' : TypeId} {d : TypeDesc} {sz bytes : Nat} {zs : List Value} {x y : Operand} {b off : Nat} {v : Value} {l vs l' : List Value}
theorem SO (hst : St w0 M L D w) (hT : TyF P T d sz bytes zs) (hx : ρ x = .pointer (some ⟨b, off, none⟩)) (hy : ρ y = v) (hsel : Sel (Res.row b T' l) (Res.row b T' l') L L') (h : ∀ w' : World, St w0 M L' D w' → C undef w') (hv : v.cells = vs.toArray := by exact rfl) (hn : vs.length = sz := by exact rfl) (ho : vs.all okCell = true := by exact rfl) (hp : Put l off vs l' := by repeat (first | exact Put.nil | apply Put.put | apply Put.skip)) : Op1 P (.store T x y) ty ρ w C := Op1.store hst hT hx hy hv hn ho hsel hp h
theorem Fills.c {place : Nat → Option (Nat × Nat)} {l vs l1 l' : List Value} {i : Nat} {x : Operand} {off size : Nat} {v : Value} {rest : List (Nat × Operand)} (hx : ρ x = v) (hp : place i = some (off, size) := by exact rfl) (hv : v.cells = vs.toArray := by exact rfl) (hn : vs.length = size := by exact rfl) (hs : Nat.ble 1 size = true := by exact rfl) (hput : Put l off vs l1 := by repeat (first | exact Put.nil | apply Put.put | apply Put.skip)) (h : Fills ρ place l1 rest l') : Fills ρ place l ((i, x) :: rest) l' := .cons hp hx hv hn hs hput h
theorem Ret.det {g : FuncId} {args : Array Value} (h : Ret P g args w (fun u w' => u = v ∧ St w NoM [] [] w')) (hst : St w0 M L D w) (hk : ∀ w' : World, St w0 M L D w' → C v w') : Ret P g args w C := h.mono fun _ w' ⟨e, hp⟩ => by subst e; exact hk w' (hst.keepc hp)
theorem Ret.detE {g : FuncId} {args : Array Value} {v2 : Value} (h : Ret P g args w (fun u w' => u = v ∧ St w NoM [] [] w')) (e : v = v2) (hst : St w0 M L D w) (hk : ∀ w' : World, St w0 M L D w' → C v2 w') : Ret P g args w C := by subst e; exact Ret.det h hst hk
end
end Go.SK
namespace Go.SK
abbrev Tx := List UInt8
def letB (c : UInt8) : Bool := decide (65 ≤ c.toNat ∧ c.toNat ≤ 90 ∨ 97 ≤ c.toNat ∧ c.toNat ≤ 122 ∨ c.toNat = 95)
def digB (c : UInt8) : Bool := decide (48 ≤ c.toNat ∧ c.toNat ≤ 57)
def blankB (c : UInt8) : Bool := decide (c.toNat = 9 ∨ c.toNat = 13 ∨ c.toNat = 32)
def runB (c : UInt8) : Bool := letB c || digB c
def runF (s : Tx) : Tx := s.takeWhile runB
def hexB (c : UInt8) : Bool := decide (48 ≤ c.toNat ∧ c.toNat ≤ 57 ∨ 97 ≤ c.toNat ∧ c.toNat ≤ 102 ∨ 65 ≤ c.toNat ∧ c.toNat ≤ 70)
def worF (c : UInt8) : Nat := if c.toNat ≤ 57 then c.toNat - 48 else if 97 ≤ c.toNat then c.toNat - 87 else c.toNat - 55
def digsF : Tx → Nat → Option Nat
  | [], n => some n
  | c :: r, n => if digB c = true then digsF r (10 * n + (c.toNat - 48)) else none
def hexsF : Tx → Nat → Option Nat
  | [], n => some n
  | c :: r, n => if hexB c = true then hexsF r (16 * n + worF c) else none
def plainF (s : Tx) : Option Nat := if s.length = 0 ∨ 10 < s.length ∨ (1 < s.length ∧ (s.getD 0 0).toNat = 48) then none else (digsF s 0).bind fun n => if n < 4294967296 then some n else none
def numLx (s : Tx) : Int × Int :=
  match plainF s with
  | some n => ((n : Int), 0)
  | none =>
    if 1 < s.length ∧ (s.getD 0 0).toNat = 45 then
      match plainF (s.drop 1) with
      | some n => if 1 ≤ n ∧ n ≤ 2147483648 then (4294967296 - (n : Int), 0) else (0, 62)
      | none => (0, 62)
    else if s.length < 3 ∨ 10 < s.length ∨ (s.getD 0 0).toNat ≠ 48 ∨ (s.getD 1 0).toNat ≠ 120 then (0, 62)
    else match hexsF (s.drop 2) 0 with
      | some n => ((n : Int), 0)
      | none => (0, 62)
def partF : Tx → Option (UInt8 × Nat)
  | [] => none
  | c :: r =>
    if c.toNat < 32 ∨ 126 < c.toNat ∨ c.toNat = 34 then none
    else if c.toNat ≠ 92 then some (c, 1)
    else if 0 < r.length ∧ ((r.getD 0 0).toNat = 34 ∨ (r.getD 0 0).toNat = 92) then some (r.getD 0 0, 2)
    else if 2 < r.length ∧ (r.getD 0 0).toNat = 120 ∧ hexB (r.getD 1 0) = true ∧ hexB (r.getD 2 0) = true then some (UInt8.ofNat (16 * worF (r.getD 1 0) + worF (r.getD 2 0)), 4)
    else none
def quoN : Nat → Tx → Option (Tx × Nat)
  | 0, _ => none
  | n + 1, s =>
    if s.length = 0 then none
    else if (s.getD 0 0).toNat = 34 then some ([], 1)
    else match partF s with
      | none => none
      | some (c, k) => (quoN n (s.drop k)).map fun q => (c :: q.1, k + q.2)
structure TokL where
  kind : Int
  text : Tx
  at_ : Int
  deriving DecidableEq
def tokF (s : Tx) : Except Int (Int × Tx × Nat) :=
  let c := s.getD 0 0
  if letB c = true then .ok (1, runF s, (runF s).length)
  else if c.toNat = 37 then
    let t := runF (s.drop 1)
    if (plainF t).isSome = true then .ok (2, t, t.length + 1) else .error 62
  else if digB c = true ∨ c.toNat = 45 then
    let t := s.take (1 + (runF (s.drop 1)).length)
    if (numLx t).2 = 0 then .ok (3, t, t.length) else .error 62
  else if c.toNat = 34 then
    match quoN (s.drop 1).length (s.drop 1) with
    | none => .error 61
    | some (t, n) => .ok (4, t, n + 1)
  else if c.toNat = 61 then .ok (5, [61], 1)
  else .error 60
def toksN : Nat → Tx → Nat → List TokL × (Int × Int)
  | 0, _, _ => ([], (0, 0))
  | n + 1, s, k =>
    if s.length = 0 ∨ (s.getD 0 0).toNat = 59 then ([], (0, 0))
    else if blankB (s.getD 0 0) = true then toksN n (s.drop 1) (k + 1)
    else match tokF s with
      | .error e => ([], (e, (k : Int)))
      | .ok (kd, t, m) =>
        let r := toksN n (s.drop m) (k + m)
        if r.2.1 = 0 then (⟨kd, t, (k : Int)⟩ :: r.1, (0, 0)) else ([], r.2)
def toksF (s : Tx) : List TokL × (Int × Int) := toksN s.length s 0
def hexD (n : Nat) : UInt8 := if n < 10 then UInt8.ofNat (48 + n) else UInt8.ofNat (87 + n)
def quoC (c : UInt8) : Tx := if c.toNat < 32 ∨ 126 < c.toNat then [92, 120, hexD (c.toNat / 16), hexD (c.toNat % 16)] else if c.toNat = 34 ∨ c.toNat = 92 then [92, c] else [c]
def quoteF (s : Tx) : Tx := 34 :: (s.flatMap quoC ++ [34])
def wrT (t : TokL) : Option Tx :=
  if t.kind = 1 then (if 0 < t.text.length ∧ letB (t.text.getD 0 0) = true ∧ runF t.text = t.text then some t.text else none)
  else if t.kind = 2 then (if (plainF t.text).isSome = true then some (37 :: t.text) else none)
  else if t.kind = 3 then (if (numLx t.text).2 = 0 then some t.text else none)
  else if t.kind = 4 then some (quoteF t.text)
  else if t.kind = 5 then (if t.text = [61] then some [61] else none)
  else none
end Go.SK
namespace Go.SK
def kindF (c : UInt8) : Int := if blankB c = true then 1 else if letB c = true then 2 else if digB c = true then 3 else 0
theorem kind1 {c : UInt8} (h : c.toNat = 9 ∨ c.toNat = 13 ∨ c.toNat = 32) : kindF c = 1 := by
  unfold kindF; rw [if_pos (show blankB c = true from decide_eq_true h)]
theorem kind2 {c : UInt8} (h0 : ¬ (c.toNat = 9 ∨ c.toNat = 13 ∨ c.toNat = 32)) (h : 65 ≤ c.toNat ∧ c.toNat ≤ 90 ∨ 97 ≤ c.toNat ∧ c.toNat ≤ 122 ∨ c.toNat = 95) : kindF c = 2 := by
  unfold kindF; rw [if_neg (by unfold blankB; simpa using h0), if_pos (show letB c = true from decide_eq_true h)]
theorem kind3 {c : UInt8} (h0 : 48 ≤ c.toNat ∧ c.toNat ≤ 57) : kindF c = 3 := by
  unfold kindF; rw [if_neg (by unfold blankB; simp; omega), if_neg (by unfold letB; simp; omega), if_pos (show digB c = true from decide_eq_true h0)]
theorem kind0 {c : UInt8} (h0 : ¬ (c.toNat = 9 ∨ c.toNat = 13 ∨ c.toNat = 32)) (h1 : ¬ (65 ≤ c.toNat ∧ c.toNat ≤ 90 ∨ 97 ≤ c.toNat ∧ c.toNat ≤ 122 ∨ c.toNat = 95)) (h2 : ¬ (48 ≤ c.toNat ∧ c.toNat ≤ 57)) : kindF c = 0 := by
  unfold kindF; rw [if_neg (by unfold blankB; simpa using h0), if_neg (by unfold letB; simpa using h1), if_neg (by unfold digB; simpa using h2)]
theorem let_blank {c : UInt8} (h : letB c = true) : blankB c = false := by
  unfold letB at h; unfold blankB; simp only [decide_eq_true_eq] at h; simp; omega
theorem dig_blank {c : UInt8} (h : digB c = true) : blankB c = false := by
  unfold digB at h; unfold blankB; simp only [decide_eq_true_eq] at h; simp; omega
theorem dig_let {c : UInt8} (h : digB c = true) : letB c = false := by
  unfold digB at h; unfold letB; simp only [decide_eq_true_eq] at h; simp; omega
theorem kind_cases (c : UInt8) : (kindF c = 1 ∧ blankB c = true ∧ letB c = false ∧ digB c = false) ∨ (kindF c = 2 ∧ blankB c = false ∧ letB c = true ∧ digB c = false) ∨ (kindF c = 3 ∧ blankB c = false ∧ letB c = false ∧ digB c = true) ∨ (kindF c = 0 ∧ blankB c = false ∧ letB c = false ∧ digB c = false) := by
  unfold kindF
  cases hl : letB c with
  | true =>
    rw [let_blank hl]
    cases hd : digB c with
    | true => rw [dig_let hd] at hl; cases hl
    | false => simp
  | false =>
    cases hd : digB c with
    | true => rw [dig_blank hd]; simp
    | false => cases hb : blankB c <;> simp
theorem kind_run (c : UInt8) : 2 ≤ kindF c ↔ runB c = true := by
  unfold runB; rcases kind_cases c with ⟨e, b, l, d⟩ | ⟨e, b, l, d⟩ | ⟨e, b, l, d⟩ | ⟨e, b, l, d⟩ <;> rw [e, l, d] <;> simp
theorem kind_let (c : UInt8) : kindF c = 2 ↔ letB c = true := by
  rcases kind_cases c with ⟨e, b, l, d⟩ | ⟨e, b, l, d⟩ | ⟨e, b, l, d⟩ | ⟨e, b, l, d⟩ <;> rw [e, l] <;> simp
theorem kind_dig (c : UInt8) : kindF c = 3 ↔ digB c = true := by
  rcases kind_cases c with ⟨e, b, l, d⟩ | ⟨e, b, l, d⟩ | ⟨e, b, l, d⟩ | ⟨e, b, l, d⟩ <;> rw [e, d] <;> simp
theorem kind_blank (c : UInt8) : kindF c = 1 ↔ blankB c = true := by
  rcases kind_cases c with ⟨e, b, l, d⟩ | ⟨e, b, l, d⟩ | ⟨e, b, l, d⟩ | ⟨e, b, l, d⟩ <;> rw [e, b] <;> simp
theorem dropC {s : Tx} {i : Nat} (h : i < s.length) : s.drop i = s.getD i 0 :: s.drop (i + 1) := by
  rw [List.drop_eq_getElem_cons h]; simp [List.getD, h]
theorem getD_drop (s : Tx) (i k : Nat) : (s.drop i).getD k 0 = s.getD (i + k) 0 := by
  simp [List.getD, List.getElem?_drop]
theorem run_step {s : Tx} {i : Nat} (h : i < s.length) (hr : runB (s.getD i 0) = true) : (runF (s.drop i)).length = 1 + (runF (s.drop (i + 1))).length := by
  unfold runF; rw [dropC h, List.takeWhile_cons, if_pos hr, List.length_cons]; omega
theorem run_stop {s : Tx} {i : Nat} (h : i < s.length) (hr : ¬ runB (s.getD i 0) = true) : (runF (s.drop i)).length = 0 := by
  unfold runF; rw [dropC h, List.takeWhile_cons, if_neg hr]; rfl
theorem run_end {s : Tx} {i : Nat} (h : s.length ≤ i) : (runF (s.drop i)).length = 0 := by
  rw [List.drop_eq_nil_of_le h]; rfl
theorem runF_take (s : Tx) {n : Nat} (h : (runF s).length = n) : s.take n = runF s := by
  subst h; unfold runF
  induction s with
  | nil => rfl
  | cons c r ih => rw [List.takeWhile_cons]; split
                   · rw [List.length_cons, List.take_succ_cons, ih]
                   · rfl
theorem runF_le (s : Tx) : (runF s).length ≤ s.length := by
  unfold runF; exact (List.takeWhile_sublist _).length_le
theorem runF_all (s : Tx) : (runF s).all runB = true := by
  unfold runF; simp [List.all_takeWhile]
theorem run_l {c : UInt8} (h : letB c = true) : runB c = true := by unfold runB; rw [h]; rfl
theorem run_d {c : UInt8} (h : digB c = true) : runB c = true := by unfold runB; rw [h, Bool.or_true]
theorem run_no {c : UInt8} (h : letB c = false) (h2 : digB c = false) : ¬ runB c = true := by unfold runB; rw [h, h2]; decide
def badP (s : Tx) : Prop := s.length = 0 ∨ 10 < s.length ∨ (1 < s.length ∧ (s.getD 0 0).toNat = 48)
instance (s : Tx) : Decidable (badP s) := by unfold badP; infer_instance
def plR (s : Tx) : Nat := if badP s then 0 else (digsF s 0).getD 0
theorem plainF_eq (s : Tx) : plainF s = if badP s then none else (digsF s 0).bind fun n => if n < 4294967296 then some n else none := rfl
theorem plR_bad {s : Tx} (h : badP s) : plR s = 0 ∧ (plainF s).isSome = false := by
  rw [plainF_eq]; unfold plR; rw [if_pos h, if_pos h]; exact ⟨rfl, rfl⟩
theorem plR_none {s : Tx} (h : ¬ badP s) (hd : digsF s 0 = none) : plR s = 0 ∧ (plainF s).isSome = false := by
  rw [plainF_eq]; unfold plR; rw [if_neg h, if_neg h, hd]; exact ⟨rfl, rfl⟩
theorem plR_some {s : Tx} {n : Nat} (h : ¬ badP s) (hd : digsF s 0 = some n) : plR s = n ∧ (plainF s).isSome = decide (n < 4294967296) := by
  rw [plainF_eq]; unfold plR; rw [if_neg h, if_neg h, hd]
  refine ⟨rfl, ?_⟩
  show (if n < 4294967296 then some n else none).isSome = _
  split <;> rename_i h1 <;> simp [h1]
theorem plR_of {s : Tx} {n : Nat} (h : plainF s = some n) : plR s = n ∧ n < 4294967296 := by
  by_cases hb : badP s
  · have := (plR_bad hb).2; rw [h] at this; cases this
  · cases hd : digsF s 0 with
    | none => have := (plR_none hb hd).2; rw [h] at this; cases this
    | some m =>
      have e := plR_some hb hd
      rw [h] at e; simp at e
      refine ⟨?_, ?_⟩
      · have : plainF s = some m := by rw [plainF_eq, if_neg hb, hd]; show (if m < 4294967296 then some m else none) = _; rw [if_pos e.2]
        rw [h] at this; cases this; exact e.1
      · have : plainF s = some m := by rw [plainF_eq, if_neg hb, hd]; show (if m < 4294967296 then some m else none) = _; rw [if_pos e.2]
        rw [h] at this; cases this; exact e.2
theorem digs_step {s : Tx} {i n : Nat} (h : i < s.length) (hd : digB (s.getD i 0) = true) : digsF (s.drop i) n = digsF (s.drop (i + 1)) (10 * n + ((s.getD i 0).toNat - 48)) := by
  rw [dropC h, digsF, if_pos hd]
theorem digs_stop {s : Tx} {i n : Nat} (h : i < s.length) (hd : ¬ digB (s.getD i 0) = true) : digsF (s.drop i) n = none := by
  rw [dropC h, digsF, if_neg hd]
theorem digs_end {s : Tx} {i n : Nat} (h : s.length ≤ i) : digsF (s.drop i) n = some n := by
  rw [List.drop_eq_nil_of_le h]; rfl
theorem dig_bd {c : UInt8} (h : digB c = true) : 48 ≤ c.toNat ∧ c.toNat ≤ 57 := by unfold digB at h; simpa using h
theorem hex_bd {c : UInt8} (h : hexB c = true) : (48 ≤ c.toNat ∧ c.toNat ≤ 57 ∨ 97 ≤ c.toNat ∧ c.toNat ≤ 102 ∨ 65 ≤ c.toNat ∧ c.toNat ≤ 70) ∧ worF c ≤ 15 := by
  unfold hexB at h; simp only [decide_eq_true_eq] at h
  refine ⟨h, ?_⟩
  unfold worF; split
  · omega
  · split <;> omega
theorem hexs_step {s : Tx} {i n : Nat} (h : i < s.length) (hd : hexB (s.getD i 0) = true) : hexsF (s.drop i) n = hexsF (s.drop (i + 1)) (16 * n + worF (s.getD i 0)) := by
  rw [dropC h, hexsF, if_pos hd]
theorem hexs_stop {s : Tx} {i n : Nat} (h : i < s.length) (hd : ¬ hexB (s.getD i 0) = true) : hexsF (s.drop i) n = none := by
  rw [dropC h, hexsF, if_neg hd]
theorem hexs_end {s : Tx} {i n : Nat} (h : s.length ≤ i) : hexsF (s.drop i) n = some n := by
  rw [List.drop_eq_nil_of_le h]; rfl
theorem pow10_le {i : Nat} (h : i ≤ 9) : 10 ^ i ≤ 1000000000 := by
  have : 10 ^ i ≤ 10 ^ 9 := Nat.pow_le_pow_right (by omega) h
  omega
theorem pow16_le {i : Nat} (h : i ≤ 7) : 16 ^ i ≤ 268435456 := by
  have : 16 ^ i ≤ 16 ^ 7 := Nat.pow_le_pow_right (by omega) h
  omega
theorem pow10_step {i n d : Nat} (h : n < 10 ^ i) (hd : d ≤ 9) : 10 * n + d < 10 ^ (i + 1) := by rw [Nat.pow_succ]; omega
theorem pow16_step {i n d : Nat} (h : n < 16 ^ i) (hd : d ≤ 15) : 16 * n + d < 16 ^ (i + 1) := by rw [Nat.pow_succ]; omega
theorem numF_plain {s : Tx} {n : Nat} (h : plainF s = some n) : numLx s = ((n : Int), 0) := by unfold numLx; rw [h]
theorem numF_minus {s : Tx} {n : Nat} (h : plainF s = none) (h1 : 1 < s.length ∧ (s.getD 0 0).toNat = 45) (h2 : plainF (s.drop 1) = some n) (h3 : 1 ≤ n ∧ n ≤ 2147483648) : numLx s = (4294967296 - (n : Int), 0) := by
  unfold numLx; rw [h]; dsimp only; rw [if_pos h1, h2]; dsimp only; rw [if_pos h3]
theorem numF_minusBad {s : Tx} (h : plainF s = none) (h1 : 1 < s.length ∧ (s.getD 0 0).toNat = 45) (h2 : ∀ n, plainF (s.drop 1) = some n → ¬ (1 ≤ n ∧ n ≤ 2147483648)) : numLx s = (0, 62) := by
  unfold numLx; rw [h]; dsimp only; rw [if_pos h1]
  cases h4 : plainF (s.drop 1) with
  | none => rfl
  | some n => dsimp only; rw [if_neg (h2 n h4)]
theorem numF_bad {s : Tx} (h : plainF s = none) (h1 : ¬ (1 < s.length ∧ (s.getD 0 0).toNat = 45)) (h2 : s.length < 3 ∨ 10 < s.length ∨ (s.getD 0 0).toNat ≠ 48 ∨ (s.getD 1 0).toNat ≠ 120) : numLx s = (0, 62) := by
  unfold numLx; rw [h]; dsimp only; rw [if_neg h1, if_pos h2]
theorem numF_hex {s : Tx} {n : Nat} (h : plainF s = none) (h1 : ¬ (1 < s.length ∧ (s.getD 0 0).toNat = 45)) (h2 : ¬ (s.length < 3 ∨ 10 < s.length ∨ (s.getD 0 0).toNat ≠ 48 ∨ (s.getD 1 0).toNat ≠ 120)) (h3 : hexsF (s.drop 2) 0 = some n) : numLx s = ((n : Int), 0) := by
  unfold numLx; rw [h]; dsimp only; rw [if_neg h1, if_neg h2, h3]
theorem numF_hexBad {s : Tx} (h : plainF s = none) (h1 : ¬ (1 < s.length ∧ (s.getD 0 0).toNat = 45)) (h2 : ¬ (s.length < 3 ∨ 10 < s.length ∨ (s.getD 0 0).toNat ≠ 48 ∨ (s.getD 1 0).toNat ≠ 120)) (h3 : hexsF (s.drop 2) 0 = none) : numLx s = (0, 62) := by
  unfold numLx; rw [h]; dsimp only; rw [if_neg h1, if_neg h2, h3]
theorem not_t {b : Bool} (h : (!b) = true) : ¬ b = true := by cases b <;> simp_all
theorem not_f {b : Bool} (h : (!b) = false) : b = true := by cases b <;> simp_all
theorem isSome_ex {α : Type} {o : Option α} (h : o.isSome = true) : ∃ a, o = some a := by cases o with
  | none => cases h
  | some a => exact ⟨a, rfl⟩
theorem isSome_no {α : Type} {o : Option α} (h : o.isSome = false) : o = none := by cases o with
  | none => rfl
  | some a => cases h
def partA (s : Tx) (a : Nat) : Option (UInt8 × Nat) :=
  if (s.getD a 0).toNat < 32 ∨ 126 < (s.getD a 0).toNat ∨ (s.getD a 0).toNat = 34 then none
  else if (s.getD a 0).toNat ≠ 92 then some (s.getD a 0, 1)
  else if 0 < s.length - (a + 1) ∧ ((s.getD (a + 1) 0).toNat = 34 ∨ (s.getD (a + 1) 0).toNat = 92) then some (s.getD (a + 1) 0, 2)
  else if 2 < s.length - (a + 1) ∧ (s.getD (a + 1) 0).toNat = 120 ∧ hexB (s.getD (a + 2) 0) = true ∧ hexB (s.getD (a + 3) 0) = true then some (UInt8.ofNat (16 * worF (s.getD (a + 2) 0) + worF (s.getD (a + 3) 0)), 4)
  else none
theorem part_drop {s : Tx} {a : Nat} (h : a < s.length) : partF (s.drop a) = partA s a := by
  rw [dropC h, partF]
  have e0 : (s.drop (a + 1)).getD 0 0 = s.getD (a + 1) 0 := by rw [getD_drop]
  have e1 : (s.drop (a + 1)).getD 1 0 = s.getD (a + 2) 0 := by rw [getD_drop]
  have e2 : (s.drop (a + 1)).getD 2 0 = s.getD (a + 3) 0 := by rw [getD_drop]
  rw [e0, e1, e2, List.length_drop]; rfl
theorem part_no1 {s : Tx} {a : Nat} (h : a < s.length) (h1 : (s.getD a 0).toNat < 32 ∨ 126 < (s.getD a 0).toNat ∨ (s.getD a 0).toNat = 34) : partF (s.drop a) = none := by
  rw [part_drop h]; unfold partA; rw [if_pos h1]
theorem part_one {s : Tx} {a : Nat} (h : a < s.length) (h1 : ¬ ((s.getD a 0).toNat < 32 ∨ 126 < (s.getD a 0).toNat ∨ (s.getD a 0).toNat = 34)) (h2 : (s.getD a 0).toNat ≠ 92) : partF (s.drop a) = some (s.getD a 0, 1) := by
  rw [part_drop h]; unfold partA; rw [if_neg h1, if_pos h2]
theorem part_two {s : Tx} {a : Nat} (h : a < s.length) (h2 : (s.getD a 0).toNat = 92) (h3 : a + 1 < s.length) (h4 : (s.getD (a + 1) 0).toNat = 34 ∨ (s.getD (a + 1) 0).toNat = 92) : partF (s.drop a) = some (s.getD (a + 1) 0, 2) := by
  rw [part_drop h]; unfold partA; rw [if_neg (by omega), if_neg (by omega), if_pos ⟨by omega, h4⟩]
theorem part_four {s : Tx} {a : Nat} (h : a < s.length) (h2 : (s.getD a 0).toNat = 92) (h3 : a + 3 < s.length) (h4 : (s.getD (a + 1) 0).toNat = 120) (h5 : hexB (s.getD (a + 2) 0) = true) (h6 : hexB (s.getD (a + 3) 0) = true) : partF (s.drop a) = some (UInt8.ofNat (16 * worF (s.getD (a + 2) 0) + worF (s.getD (a + 3) 0)), 4) := by
  rw [part_drop h]; unfold partA; rw [if_neg (by omega), if_neg (by omega), if_neg (by omega), if_pos ⟨by omega, h4, h5, h6⟩]
theorem part_no2 {s : Tx} {a : Nat} (h : a < s.length) (h2 : (s.getD a 0).toNat = 92) (h3 : ¬ (a + 1 < s.length ∧ ((s.getD (a + 1) 0).toNat = 34 ∨ (s.getD (a + 1) 0).toNat = 92))) (h4 : ¬ (a + 3 < s.length ∧ (s.getD (a + 1) 0).toNat = 120 ∧ hexB (s.getD (a + 2) 0) = true ∧ hexB (s.getD (a + 3) 0) = true)) : partF (s.drop a) = none := by
  rw [part_drop h]; unfold partA; rw [if_neg (by omega), if_neg (by omega), if_neg (fun q => h3 ⟨by omega, q.2⟩), if_neg (fun q => h4 ⟨by omega, q.2⟩)]
theorem part_len {s : Tx} {a : Nat} {c : UInt8} {k : Nat} (h : a < s.length) (e : partF (s.drop a) = some (c, k)) : 1 ≤ k ∧ a + k ≤ s.length := by
  rw [part_drop h] at e; unfold partA at e
  split at e
  · cases e
  split at e
  · cases e; omega
  split at e
  · cases e; omega
  split at e
  · cases e; omega
  · cases e
theorem pow16_le8 {i : Nat} (h : i ≤ 8) : 16 ^ i ≤ 4294967296 := by
  have : 16 ^ i ≤ 16 ^ 8 := Nat.pow_le_pow_right (by omega) h
  omega
theorem hex_byte {a b : Nat} (ha : a ≤ 15) (hb : b ≤ 15) : ((UInt8.ofNat (16 * a + b)).toNat : Int) = 16 * (a : Int) + b := by
  rw [UInt8.toNat_ofNat']; omega
def partV (o : Option (UInt8 × Nat)) : Value := .tuple #[.int .u8 ((o.getD (0, 0)).1.toNat : Int), .int .i64 ((o.getD (0, 0)).2 : Int)]
end Go.SK
namespace Go.SK
open Go.RowKit
theorem St.ofBelow {w w' : World} (h : Below w.heap.size w w') : St w NoM [] [] w' := (St.init w).keep (Kept.of_below h)
theorem Ret.ofEq {P : Program} {g : FuncId} {args : Array Value} {w : World} {v : Value} (h : Calls P g args w fun e w' => e = .returned v ∧ w' = w) : Ret P g args w (fun u w' => u = v ∧ St w NoM [] [] w') :=
  Calls.mono h fun e w' ⟨he, hw⟩ => ⟨v, he, rfl, hw ▸ St.init w⟩
theorem Ret.ofBelow {P : Program} {g : FuncId} {args : Array Value} {w : World} {v : Value} (h : Calls P g args w fun e w' => e = .returned v ∧ Below w.heap.size w w') : Ret P g args w (fun u w' => u = v ∧ St w NoM [] [] w') :=
  Calls.mono h fun e w' ⟨he, hw⟩ => ⟨v, he, rfl, St.ofBelow hw⟩
theorem str_size (s : List UInt8) : (ByteArray.mk s.toArray).size = s.length := by simp [ByteArray.size]
theorem str_list (s : List UInt8) : (ByteArray.mk s.toArray).data.toList = s := rfl
section
variable {P : Program} {ty : TypeId} {ρ : Operand → Value} {w0 w : World} {C : Value → World → Prop} {M : Nat → Prop} {L D : List Res} {T T2 e : TypeId} {x y : Operand} {sz bytes : Nat} {zs : List Value}
def ifaceB : TypeDesc → Bool
  | .interface _ => true
  | _ => false
theorem Op1.mkIface {d : TypeDesc} {v : Value} (hT : TyF P T d sz bytes zs) (hd : ifaceB d = false) (hx : ρ x = v) (h : C (.iface T v) w) : Op1 P (.makeInterface T x) ty ρ w C := by
  refine Op1.of (v := .iface T v) (w' := w) ?_ h
  simp only [execOp, hx, Instr.makeInterface, Sem.run_bind, hT.run_und, Result.andThen]
  cases d <;> first | rfl | cases hd
theorem equal_nn {m : Array (String × TypeId)} (hT : TyF P T (.interface m) sz bytes zs) : (Op.equal T .nilIface .nilIface).run P w = .ok true w := by
  show (Op.equalIn (9999 + 1) T .nilIface .nilIface).run P w = _
  rw [Op.equalIn]
  simp [Sem.run_bind, hT.run_und, Result.andThen]
theorem equal_in {m : Array (String × TypeId)} {U : TypeId} {p : Value} (hT : TyF P T (.interface m) sz bytes zs) : (Op.equal T (.iface U p) .nilIface).run P w = .ok false w := by
  show (Op.equalIn (9999 + 1) T (.iface U p) .nilIface).run P w = _
  rw [Op.equalIn]
  simp [Sem.run_bind, hT.run_und, Result.andThen]
theorem Op1.eqlNN {m : Array (String × TypeId)} (hT : TyF P T (.interface m) sz bytes zs) (hx : ρ x = .nilIface) (hy : ρ (.const .nilIface) = .nilIface) (h : C (.bool true) w) : Op1 P (.binOp .eql T x (.const .nilIface) T2) ty ρ w C := by
  refine Op1.of (v := .bool true) (w' := w) ?_ h
  simp only [execOp, hx, hy, eqGuard]
  simp [binOp, equal_nn hT, Result.andThen]
theorem Op1.eqlIN {m : Array (String × TypeId)} {U : TypeId} {p : Value} (hT : TyF P T (.interface m) sz bytes zs) (hx : ρ x = .iface U p) (hy : ρ y = .nilIface) (h : C (.bool false) w) : Op1 P (.binOp .eql T x y T2) ty ρ w C := by
  refine Op1.of (v := .bool false) (w' := w) ?_ h
  simp only [execOp, hx, hy, eqGuard]
  simp [binOp, equal_in hT, Result.andThen]
theorem Op1.neqNN {m : Array (String × TypeId)} (hT : TyF P T (.interface m) sz bytes zs) (hx : ρ x = .nilIface) (hy : ρ (.const .nilIface) = .nilIface) (h : C (.bool false) w) : Op1 P (.binOp .neq T x (.const .nilIface) T2) ty ρ w C := by
  refine Op1.of (v := .bool false) (w' := w) ?_ h
  simp only [execOp, hx, hy, eqGuard]
  simp [binOp, equal_nn hT, Result.andThen]
theorem Op1.neqIN {m : Array (String × TypeId)} {U : TypeId} {p : Value} (hT : TyF P T (.interface m) sz bytes zs) (hx : ρ x = .iface U p) (hy : ρ y = .nilIface) (h : C (.bool true) w) : Op1 P (.binOp .neq T x y T2) ty ρ w C := by
  refine Op1.of (v := .bool true) (w' := w) ?_ h
  simp only [execOp, hx, hy, eqGuard]
  simp [binOp, equal_in hT, Result.andThen]
theorem Op1.strBytes {S : TypeId} {s : List UInt8} {sz2 b2 es eb : Nat} {z2 ez : List Value} (hst : St w0 M L D w) (hS : TyF P S .string sz2 b2 z2) (hT : TyF P T (.slice e) sz bytes zs) (he : TyF P e (.int .u8) es eb ez) (hx : ρ x = str s)
    (h : ∀ (w' : World) (b cp : Nat), St w0 M (Res.rs (some ⟨b, 0, none⟩) s.length 1 (s.flatMap byC) :: L) D w' → C (.slice (some ⟨b, 0, none⟩) s.length cp) w') : Op1 P (.convert S T x) ty ρ w C := by
  have hr := Lib.run_convert_string_bytes (P := P) w S T e ⟨s.toArray⟩ hS.und hT.und he.und
  rw [str_size] at hr
  refine Inv.value (v := .slice (some ⟨w.heap.size, 0, none⟩) s.length (grownCap w s.length 0 e)) (w' := Lib.bytesWorld w e ⟨s.toArray⟩) ?_ (h (Lib.bytesWorld w e ⟨s.toArray⟩) w.heap.size (grownCap w s.length 0 e) (hst.push (Kept.of_below (Lib.bytesWorld_below _ _ _)) ?_ ?_))
  · simp only [execOp, hx, Sem.run_bind, str]
    rw [hr]; rfl
  · refine ⟨by rw [flat_len (es := 1) (fun _ => rfl)], .inr ⟨_, 0, rfl, fun i v hi => ?_⟩⟩
    rw [flat_byC] at hi
    have hi2 := (List.getElem?_eq_some_iff.1 hi)
    obtain ⟨h1, h2⟩ := hi2
    rw [List.length_map] at h1
    have := Lib.bytesWorld_cell w e ⟨s.toArray⟩ i (by rw [str_size]; exact h1)
    rw [Nat.zero_add, this, ← h2, str_list]; simp [List.getD, h1]
  · intro b ⟨_, o, ho⟩
    cases ho; exact Nat.le_refl _
end
theorem putRow_kept {α : Type} [Inhabited α] (enc : α → Value) (w : World) (b off : Nat) (d : Array α) (n : Nat) {cs : Array Value} {T : TypeId} {fz : Nat × Nat} (h : w.heap[b]? = some (.cells cs T fz)) :
    Kept (· = b) w ((Sort.putRow enc w b off d).drewN n) ∧ ((Sort.putRow enc w b off d).drewN n).heap[b]? = some (.cells (Sort.putCells enc off d cs) T fz) := by
  refine ⟨⟨rfl, rfl, rfl, ?_, ?_⟩, ?_⟩
  · simp [Sort.putRow, Sort.mapBlock, World.drewN]
  · intro c hc hne
    simp [Sort.putRow, Sort.mapBlock, World.drewN, Array.getElem?_modify, show b ≠ c from fun e => hne e.symm]
  · simp [Sort.putRow, Sort.mapBlock, World.drewN, Array.getElem?_modify, h, Sort.onCells]
end Go.SK
namespace Go.SK
def puO (s : Tx) : Option Nat := match Lib.parseUintB 32 s with
  | .ok u => some u
  | _ => none
def puV (s : Tx) : Nat := match Lib.parseUintB 32 s with
  | .ok u => u
  | .range => 4294967295
  | _ => 0
theorem puV_le (s : Tx) : puV s ≤ 4294967295 := by
  unfold puV
  cases h : Lib.parseUintB 32 s
  · exact Lib.parseUintB_le h
  · exact Nat.zero_le _
  · exact Nat.le_refl _
theorem digs_mono : ∀ (s : Tx) (a n : Nat), digsF s a = some n → a ≤ n
  | [], a, n, h => by cases h; exact Nat.le_refl _
  | c :: r, a, n, h => by
    rw [digsF] at h; split at h
    · have := digs_mono r _ n h; omega
    · cases h
theorem digs_parse : ∀ (s : Tx) (a n : Nat), digsF s a = some n → n ≤ 4294967295 → Lib.parseUintM 4294967295 a s = .ok n
  | [], a, n, h, _ => by cases h; rfl
  | c :: r, a, n, h, hn => by
    rw [digsF] at h; split at h
    · rename_i hd
      have hb := dig_bd hd
      have hm := digs_mono r _ n h
      rw [Lib.parseUintM, if_pos hb, if_neg (by omega), if_neg (by omega), Nat.mul_comm a 10]
      exact digs_parse r _ n h hn
    · cases h
theorem digs_app (c : UInt8) : ∀ (s : Tx) (a : Nat), digsF (s ++ [c]) a = (digsF s a).bind fun m => if digB c = true then some (10 * m + (c.toNat - 48)) else none
  | [], a => by simp [digsF]
  | d :: r, a => by
    rw [List.cons_append, digsF, digsF]
    split
    · exact digs_app c r _
    · rfl
theorem digs_dec (u : Nat) : digsF (Lib.decDigits u) 0 = some u := by
  induction u using Nat.strongRecOn with
  | _ u ih =>
    rw [Lib.decDigits]; split
    · rename_i h
      have h1 : (UInt8.ofNat (48 + u)).toNat = 48 + u := by rw [UInt8.toNat_ofNat']; omega
      rw [digsF, if_pos (show digB _ = true from decide_eq_true (by omega)), digsF, h1]; congr 1; omega
    · rename_i h
      have h1 : (UInt8.ofNat (48 + u % 10)).toNat = 48 + u % 10 := by rw [UInt8.toNat_ofNat']; omega
      rw [digs_app, ih (u / 10) (by omega), Option.bind_some, if_pos (show digB _ = true from decide_eq_true (by omega)), h1]; congr 1; omega
theorem getD_app0 {a b : Tx} (h : 0 < a.length) : (a ++ b).getD 0 0 = a.getD 0 0 := by
  cases a with
  | nil => exact absurd h (Nat.lt_irrefl _)
  | cons c r => rfl
theorem snoc_ind {p : Tx → Prop} (h0 : p []) (h1 : ∀ r c, p r → p (r ++ [c])) (s : Tx) : p s := by
  have : ∀ l : Tx, p l.reverse := fun l => by
    induction l with
    | nil => exact h0
    | cons c r ih => rw [List.reverse_cons]; exact h1 _ _ ih
  have h := this s.reverse
  rwa [List.reverse_reverse] at h
theorem dec_len (u : Nat) : (Lib.decDigits u).length = Lib.nDigits u := by rw [Lib.decDigits_eq]; simp
theorem dec_head {u : Nat} : 0 < (Lib.decDigits u).length ∧ (((Lib.decDigits u).getD 0 0).toNat = 48 → u = 0) := by
  induction u using Nat.strongRecOn with
  | _ u ih =>
    rw [Lib.decDigits]; split
    · rename_i h
      have h1 : (UInt8.ofNat (48 + u)).toNat = 48 + u := by rw [UInt8.toNat_ofNat']; omega
      refine ⟨Nat.one_pos, fun h2 => ?_⟩
      have : ((([UInt8.ofNat (48 + u)] : List UInt8).getD 0 0)).toNat = 48 + u := h1
      omega
    · rename_i h
      obtain ⟨h1, h2⟩ := ih (u / 10) (by omega)
      refine ⟨by rw [List.length_append]; omega, fun h3 => ?_⟩
      rw [getD_app0 h1] at h3
      have := h2 h3; omega
theorem nDigits_le {u k : Nat} (h : u < 10 ^ (k + 1)) : Lib.nDigits u ≤ k + 1 := by
  induction k generalizing u with
  | zero => rw [Lib.nDigits_small (by simpa using h)]; exact Nat.le_refl _
  | succ k ih =>
    by_cases h10 : u < 10
    · rw [Lib.nDigits_small h10]; omega
    · rw [Lib.nDigits_big h10]
      have := ih (u := u / 10) (by rw [Nat.pow_succ] at h; omega)
      omega
theorem dec_of (s : Tx) : ∀ n, 0 < s.length → (1 < s.length → (s.getD 0 0).toNat ≠ 48) → digsF s 0 = some n → Lib.decDigits n = s ∧ ((s.getD 0 0).toNat ≠ 48 → 1 ≤ n) := by
  refine snoc_ind (p := fun s => ∀ n, 0 < s.length → (1 < s.length → (s.getD 0 0).toNat ≠ 48) → digsF s 0 = some n → Lib.decDigits n = s ∧ ((s.getD 0 0).toNat ≠ 48 → 1 ≤ n)) ?_ ?_ s
  · intro n h; exact absurd h (Nat.lt_irrefl _)
  · intro r c ih n _ hz hd
    rw [digs_app] at hd
    cases hr : digsF r 0 with
    | none => rw [hr] at hd; cases hd
    | some m =>
      rw [hr, Option.bind_some] at hd
      split at hd
      · rename_i hc
        have hb := dig_bd hc
        cases hd
        rcases Nat.eq_zero_or_pos r.length with h0 | h0
        · obtain rfl := List.length_eq_zero_iff.1 h0
          cases hr
          refine ⟨?_, fun h => ?_⟩
          · rw [Lib.decDigits, dif_pos (by omega), List.nil_append]
            congr 1
            apply UInt8.toNat_inj.1; rw [UInt8.toNat_ofNat']; omega
          · have : (([] ++ [c] : List UInt8).getD 0 0).toNat = c.toNat := rfl
            omega
        · have e0 : (r ++ [c]).getD 0 0 = r.getD 0 0 := getD_app0 h0
          have hz2 := hz (by rw [List.length_append]; simp; omega)
          rw [e0] at hz2
          obtain ⟨h1, h2⟩ := ih m h0 (fun _ => hz2) hr
          have h3 := h2 hz2
          refine ⟨?_, fun _ => by omega⟩
          rw [Lib.decDigits, dif_neg (by omega), show (10 * m + (c.toNat - 48)) / 10 = m by omega, h1]
          congr 2
          apply UInt8.toNat_inj.1; rw [UInt8.toNat_ofNat']; omega
      · cases hd
theorem plain_dec {s : Tx} {n : Nat} (h : plainF s = some n) : Lib.decDigits n = s ∧ puV s = n ∧ (puO s).isSome = true := by
  have hn := plR_of h
  by_cases hb : badP s
  · have := (plR_bad hb).2; rw [h] at this; cases this
  · cases hd : digsF s 0 with
    | none => have := (plR_none hb hd).2; rw [h] at this; cases this
    | some m =>
      have e := plR_some hb hd
      have hm : m = n := e.1.symm.trans hn.1
      subst hm
      unfold badP at hb
      refine ⟨(dec_of s m (by omega) (by omega) hd).1, ?_⟩
      have hp : Lib.parseUintB 32 s = .ok m := by
        unfold Lib.parseUintB
        rw [if_neg (fun e => hb (.inl (by rw [e]; rfl)))]
        exact digs_parse s 0 m hd (by omega)
      unfold puV puO; rw [hp]; exact ⟨rfl, rfl⟩
theorem dec_plain {u : Nat} (h : u < 4294967296) : plainF (Lib.decDigits u) = some u := by
  have hl : ¬ badP (Lib.decDigits u) := by
    unfold badP
    have h1 := dec_head (u := u)
    have h2 := dec_len u
    have h3 := nDigits_le (u := u) (k := 9) (by omega)
    intro hq
    rcases hq with hq | hq | ⟨hq, hz⟩
    · omega
    · omega
    · have := h1.2 hz; subst this
      rw [h2, Lib.nDigits_small (by omega)] at hq; omega
  rw [plainF_eq, if_neg hl, digs_dec, Option.bind_some, if_pos h]
theorem plain_yes {s : Tx} (h : (puO s).isSome = true) : (plainF s).isSome = decide (Lib.decDigits (puV s) = s) := by
  by_cases e : Lib.decDigits (puV s) = s
  · rw [decide_eq_true e]
    have := dec_plain (u := puV s) (by have := puV_le s; omega)
    rw [e] at this; rw [this]; rfl
  · rw [decide_eq_false e]
    cases hp : plainF s with
    | none => rfl
    | some n =>
      obtain ⟨h1, h2, _⟩ := plain_dec hp
      rw [h2] at e; exact absurd h1 e
theorem plain_no {s : Tx} (h : (puO s).isSome = false) : (plainF s).isSome = false := by
  cases hp : plainF s with
  | none => rfl
  | some n => rw [(plain_dec hp).2.2] at h; cases h
end Go.SK
namespace Go.SK
open Go.RowKit
section
variable {P : Program} {ty : TypeId} {ρ : Operand → Value} {w : World} {C : Value → World → Prop} {T e : TypeId} {sz bytes es eb : Nat} {zs ez : List Value} {de : TypeDesc}
theorem Op1.sliceArrTo {x y : Operand} {b off k hi : Nat} {kk : IntKind} {a : Int} (hT : TyF P T (.array k e) sz bytes zs) (he : TyF P e de es eb ez) (hx : ρ x = .pointer (some ⟨b, off, none⟩)) (hy : ρ y = .int kk a) (ha : a = hi) (h1 : hi ≤ k)
    (h : C (.slice (some ⟨b, off, none⟩) hi k) w) : Op1 P (.slice T x none (some y) none) ty ρ w C := by
  subst ha
  refine Op1.of (v := .slice (some ⟨b, off, none⟩) hi k) (w' := w) ?_ h
  simp [execOp, Instr.sliceAt, Instr.slice, Instr.sliceBounds, Instr.sliceBound, asIntOf, hx, hy, Sem.run_bind, hT.run_und, he.run_size, Result.andThen, h1, addr_add, Instr.sureAddr]
end
theorem low_nat : ∀ n < 256, 0 ≤ bits .or .u8 ((n : Nat) : Int) 32 ∧ bits .or .u8 ((n : Nat) : Int) 32 ≤ 255 ∧ (97 ≤ n ∧ n ≤ 102 → bits .or .u8 ((n : Nat) : Int) 32 = n) ∧ (65 ≤ n ∧ n ≤ 70 → bits .or .u8 ((n : Nat) : Int) 32 = n + 32) ∧ (¬ (48 ≤ n ∧ n ≤ 57) → ¬ (97 ≤ n ∧ n ≤ 102 ∨ 65 ≤ n ∧ n ≤ 70) → ¬ (97 ≤ bits .or .u8 ((n : Nat) : Int) 32 ∧ bits .or .u8 ((n : Nat) : Int) 32 ≤ 102)) := by decide +kernel
theorem fmt_row {u k : Nat} {d : Array UInt8} {v' : Nat} (h : Lib.FmtInv k u 0 v' d) (hk : k = Lib.nDigits u) (xs : List Value) (hx : k ≤ xs.length) :
    (Sort.putCells (fun (b : UInt8) => Value.int .u8 (b.toNat : Int)) 0 d xs.toArray).toList.take k = (Lib.decDigits u).flatMap byC := by
  have hs := h.size
  apply List.ext_getElem?
  intro j
  rw [flat_byC, Lib.decDigits_eq, ← hk]
  by_cases hj : j < k
  · rw [List.getElem?_take_of_lt hj]
    have hd := h.done j (Nat.zero_le _) hj
    rw [getElem!_pos d j (by omega)] at hd
    simp [Sort.putCells, hj, hs, show j < xs.length by omega, hd]
  · rw [List.getElem?_eq_none (by simp; omega), List.getElem?_eq_none (by simp; omega)]
end Go.SK
namespace Go.SK
theorem take1 {s : Tx} {c : UInt8} (h : s.take 1 = [c]) : 0 < s.length ∧ (s.getD 0 0).toNat = c.toNat := by
  cases s with
  | nil => cases h
  | cons a r => cases h; exact ⟨Nat.succ_pos _, rfl⟩
theorem take1_no {s : Tx} {c : UInt8} (h : s.take 1 ≠ [c]) : s.length = 0 ∨ (s.getD 0 0).toNat ≠ c.toNat := by
  cases s with
  | nil => exact .inl rfl
  | cons a r => exact .inr fun e => h (by rw [List.take_succ_cons, List.take_zero]; exact congrArg (fun x => [x]) (UInt8.toNat_inj.1 e))
theorem take2 {s : Tx} {c d : UInt8} (h : s.take 2 = [c, d]) : 2 ≤ s.length ∧ (s.getD 0 0).toNat = c.toNat ∧ (s.getD 1 0).toNat = d.toNat := by
  match s, h with
  | a :: b :: r, h => cases h; exact ⟨by simp, rfl, rfl⟩
theorem take2_no {s : Tx} {c d : UInt8} (h : s.take 2 ≠ [c, d]) : s.length < 2 ∨ (s.getD 0 0).toNat ≠ c.toNat ∨ (s.getD 1 0).toNat ≠ d.toNat := by
  match s, h with
  | [], h => exact .inl (by simp)
  | [a], h => exact .inl (by simp)
  | a :: b :: r, h =>
    by_cases e : a = c
    · by_cases e2 : b = d
      · exact absurd (by rw [e, e2]; rfl) h
      · exact .inr (.inr fun e3 => e2 (UInt8.toNat_inj.1 e3))
    · exact .inr (.inl fun e3 => e (UInt8.toNat_inj.1 e3))
theorem trim_yes {s p : Tx} (h : Lib.hasPrefix s p = true) : Lib.trimPrefix s p = s.drop p.length ∧ s.take p.length = p := by
  refine ⟨by unfold Lib.trimPrefix; rw [if_pos h], ?_⟩
  unfold Lib.hasPrefix at h
  obtain ⟨t, rfl⟩ := List.isPrefixOf_iff_prefix.1 h
  simp
theorem trim_no {s p : Tx} (h : Lib.hasPrefix s p = false) : Lib.trimPrefix s p = s ∧ s.take p.length ≠ p := by
  refine ⟨by unfold Lib.trimPrefix; rw [h]; rfl, fun e => ?_⟩
  unfold Lib.hasPrefix at h
  have hq : p ++ s.drop p.length = s := by
    have h2 := List.take_append_drop p.length s
    rw [e] at h2; exact h2
  have : p.isPrefixOf s = true := List.isPrefixOf_iff_prefix.2 ⟨s.drop p.length, hq⟩
  rw [h] at this; cases this
theorem numF_minusBad2 {s : Tx} (h : plainF s = none) (h1 : 0 < s.length ∧ (s.getD 0 0).toNat = 45) (h2 : ∀ n, plainF (s.drop 1) = some n → ¬ (1 ≤ n ∧ n ≤ 2147483648)) : numLx s = (0, 62) := by
  by_cases hl : 1 < s.length
  · exact numF_minusBad h ⟨hl, h1.2⟩ h2
  · exact numF_bad h (fun q => hl q.1) (.inl (by omega))
theorem numF_minus2 {s : Tx} {n : Nat} (h : plainF s = none) (h1 : 0 < s.length ∧ (s.getD 0 0).toNat = 45) (h2 : plainF (s.drop 1) = some n) (h3 : 1 ≤ n ∧ n ≤ 2147483648) : numLx s = (4294967296 - (n : Int), 0) := by
  refine numF_minus h ⟨?_, h1.2⟩ h2 h3
  by_cases hl : 1 < s.length
  · exact hl
  · rw [List.drop_eq_nil_of_le (by omega)] at h2; cases h2
theorem numF_hexBad2 {s : Tx} (h : plainF s = none) (h1 : 2 ≤ s.length ∧ (s.getD 0 0).toNat = 48 ∧ (s.getD 1 0).toNat = 120) (h2 : 10 < s.length ∨ s.length = 2 ∨ hexsF (s.drop 2) 0 = none) : numLx s = (0, 62) := by
  by_cases hb : s.length < 3 ∨ 10 < s.length ∨ (s.getD 0 0).toNat ≠ 48 ∨ (s.getD 1 0).toNat ≠ 120
  · exact numF_bad h (by omega) hb
  · refine numF_hexBad h (by omega) hb ?_
    rcases h2 with h2 | h2 | h2
    · omega
    · omega
    · exact h2
theorem hexs_run : ∀ (s : Tx) (a n : Nat), hexsF s a = some n → runF s = s ∧ Lib.indexByte s 95 = -1
  | [], a, n, _ => ⟨rfl, rfl⟩
  | c :: r, a, n, h => by
    rw [hexsF] at h; split at h
    · rename_i hc
      obtain ⟨h1, h2⟩ := hexs_run r _ n h
      have hb := (hex_bd hc).1
      have hr : runB c = true := by
        unfold runB letB digB
        rw [Bool.or_eq_true, decide_eq_true_eq, decide_eq_true_eq]; omega
      refine ⟨?_, ?_⟩
      · unfold runF at h1 ⊢; rw [List.takeWhile_cons, if_pos hr, h1]
      · unfold Lib.indexByte
        have hne : (c == 95) = false := by
          rw [beq_eq_false_iff_ne]; intro e; subst e
          have : (95 : UInt8).toNat = 95 := rfl
          omega
        rw [hne, h2]; rfl
    · cases h
theorem neg_wrap {m : Nat} (h : 1 ≤ m ∧ m ≤ 2147483648) : IntKind.u32.wrap (0 - (m : Int)) = 4294967296 - (m : Int) := by
  simp [IntKind.wrap, IntKind.signed, IntKind.bits]; omega
theorem hexs_lt : ∀ (s : Tx) (a n k : Nat), hexsF s a = some n → a < 16 ^ k → n < 16 ^ (k + s.length)
  | [], a, n, k, h, ha => by cases h; exact ha
  | c :: r, a, n, k, h, ha => by
    rw [hexsF] at h; split at h
    · rename_i hc
      have := hexs_lt r _ n (k + 1) h (pow16_step ha (hex_bd hc).2)
      rw [List.length_cons, show k + (r.length + 1) = k + 1 + r.length by omega]; exact this
    · cases h
theorem hexs_bd {s : Tx} {n : Nat} (h : hexsF s 0 = some n) (hl : s.length ≤ 8) : n ≤ 4294967295 := by
  have h1 := hexs_lt s 0 n 0 h (by decide)
  have h2 := pow16_le8 (i := 0 + s.length) (by omega)
  omega
def escF (r : Tx) : Option (UInt8 × Nat) := (partF (92 :: r)).map fun q => (q.1, q.2 - 1)
theorem esc_mark {r : Tx} (h0 : 0 < r.length) (h : (r.getD 0 0).toNat = 34 ∨ (r.getD 0 0).toNat = 92) : escF r = some (r.getD 0 0, 1) := by
  unfold escF
  rw [show partF (92 :: r) = partF ((92 :: r).drop 0) from rfl, part_two (by simp) rfl (by simp; omega) h]; rfl
theorem num4 {r : Tx} (h : 3 ≤ r.length) (hx : (r.getD 0 0).toNat = 120) : numLx ([48] ++ r.take 3) = if hexB (r.getD 1 0) = true ∧ hexB (r.getD 2 0) = true then (((16 * worF (r.getD 1 0) + worF (r.getD 2 0) : Nat) : Int), 0) else (0, 62) := by
  match r, h with
  | a :: b :: c :: t, _ =>
    have ha : a = 120 := UInt8.toNat_inj.1 hx
    subst ha
    show numLx [48, 120, b, c] = if hexB b = true ∧ hexB c = true then _ else _
    have hp : plainF [48, 120, b, c] = none := by
      rw [plainF_eq, if_pos (show badP [48, 120, b, c] from .inr (.inr ⟨by simp, rfl⟩))]
    have hs : hexsF [b, c] 0 = if hexB b = true ∧ hexB c = true then some (16 * worF b + worF c) else none := by
      rw [hexsF]
      by_cases hb : hexB b = true
      · rw [if_pos hb, hexsF]
        by_cases hc : hexB c = true
        · rw [if_pos hc, if_pos ⟨hb, hc⟩, hexsF]; simp
        · rw [if_neg hc, if_neg (fun q => hc q.2)]
      · rw [if_neg hb, if_neg (fun q => hb q.1)]
    by_cases hq : hexB b = true ∧ hexB c = true
    · rw [if_pos hq]; rw [if_pos hq] at hs
      exact numF_hex hp (by simp) (by simp) hs
    · rw [if_neg hq]; rw [if_neg hq] at hs
      exact numF_hexBad hp (by simp) (by simp) hs
theorem esc_hex {r : Tx} (h : 3 ≤ r.length) (hx : (r.getD 0 0).toNat = 120) (hn : (numLx ([48] ++ r.take 3)).2 = 0) : escF r = some (UInt8.ofNat ((numLx ([48] ++ r.take 3)).1).toNat, 3) ∧ 0 ≤ (numLx ([48] ++ r.take 3)).1 ∧ (numLx ([48] ++ r.take 3)).1 ≤ 255 := by
  rw [num4 h hx] at hn ⊢
  split at hn
  · rename_i hq
    rw [if_pos hq]
    have h1 := (hex_bd hq.1).2
    have h2 := (hex_bd hq.2).2
    refine ⟨?_, by dsimp only; omega, by dsimp only; omega⟩
    unfold escF
    rw [show partF (92 :: r) = partF ((92 :: r).drop 0) from rfl, part_four (by simp) rfl (by simp; omega) hx hq.1 hq.2]; rfl
  · cases hn
theorem esc_noHex {r : Tx} (h : 3 ≤ r.length) (hx : (r.getD 0 0).toNat = 120) (hn : (numLx ([48] ++ r.take 3)).2 ≠ 0) : escF r = none := by
  rw [num4 h hx] at hn
  split at hn
  · exact absurd rfl hn
  · rename_i hq
    unfold escF
    rw [show partF (92 :: r) = partF ((92 :: r).drop 0) from rfl, part_no2 (by simp) rfl (fun q => ?_) (fun q => hq ⟨q.2.2.1, q.2.2.2⟩)]; rfl
    have : ((92 :: r).getD (0 + 1) 0).toNat = 120 := hx
    omega
theorem esc_no {r : Tx} (h0 : 0 < r.length) (h : ¬ ((r.getD 0 0).toNat = 34 ∨ (r.getD 0 0).toNat = 92)) (hx : ¬ ((r.getD 0 0).toNat = 120 ∧ 3 ≤ r.length)) : escF r = none := by
  unfold escF
  rw [show partF (92 :: r) = partF ((92 :: r).drop 0) from rfl, part_no2 (by simp) rfl (fun q => h q.2) (fun q => hx ⟨q.2.1, by have := q.1; simp at this; omega⟩)]; rfl
theorem part_esc {s : Tx} {a : Nat} (h : a < s.length) (hc : (s.getD a 0).toNat = 92) : partF (s.drop a) = (escF (s.drop (a + 1))).map fun q => (q.1, q.2 + 1) := by
  have e : s.drop a = 92 :: s.drop (a + 1) := by
    rw [dropC h]; congr 1; exact UInt8.toNat_inj.1 hc
  unfold escF
  rw [e]
  cases hp : partF (92 :: s.drop (a + 1)) with
  | none => rfl
  | some q =>
    have := part_len (s := 92 :: s.drop (a + 1)) (a := 0) (c := q.1) (k := q.2) (by simp) hp
    simp only [Option.map_some]; congr 1
    exact Prod.ext rfl (by show q.2 = q.2 - 1 + 1; omega)
end Go.SK
namespace Go.SK
open Go Go.Proofs Go.Shelf
def lx_lays137_ren : Go.Shelf.Ren := ⟨fun | 137 => 87 | 217 => 146 | 266 => 193 | n => n, fun | 9 => 9 | 5 => 5 | 3 => 3 | n => n, fun | n => n⟩
theorem lx_lays137 : Go.Proofs.Lays.n137 Tryz.prog lx_lays137_ren := {
 mixed := by kernel_rfl
 f137 := Tryz.func87.trans (congrArg some (by kernel_rfl))
 f217 := Tryz.func146.trans (congrArg some (by kernel_rfl))
 f266 := Tryz.func193.trans (congrArg some (by kernel_rfl))
 t3 := Tryz.underlying3
 a3 := Tryz.isAgg3
 z3 := Tryz.sizeOf3
 v3 := Tryz.zeroValue3
 t5 := Tryz.underlying5
 a5 := Tryz.isAgg5
 z5 := Tryz.sizeOf5
 v5 := Tryz.zeroValue5
 t9 := Tryz.underlying9
 a9 := Tryz.isAgg9
 z9 := Tryz.sizeOf9
 v9 := Tryz.zeroValue9 }
def lx_lays103_ren : Go.Shelf.Ren := ⟨fun | 103 => 84 | 210 => 143 | 206 => 186 | n => n, fun | 9 => 9 | 4 => 4 | 24 => 146 | 3 => 3 | n => n, fun | n => n⟩
theorem lx_lays103 : Go.Proofs.Lays.n103 Tryz.prog lx_lays103_ren := {
 mixed := by kernel_rfl
 f103 := Tryz.func84.trans (congrArg some (by kernel_rfl))
 f206 := Tryz.func186.trans (congrArg some (by kernel_rfl))
 f210 := Tryz.func143.trans (congrArg some (by kernel_rfl))
 t3 := Tryz.underlying3
 a3 := Tryz.isAgg3
 z3 := Tryz.sizeOf3
 v3 := Tryz.zeroValue3
 t4 := Tryz.underlying4
 a4 := Tryz.isAgg4
 z4 := Tryz.sizeOf4
 v4 := Tryz.zeroValue4
 t9 := Tryz.underlying9
 a9 := Tryz.isAgg9
 z9 := Tryz.sizeOf9
 v9 := Tryz.zeroValue9
 t24 := Tryz.underlying146
 a24 := Tryz.isAgg146
 z24 := Tryz.sizeOf146
 v24 := Tryz.zeroValue146 }
def lx_lays283_ren : Go.Shelf.Ren := ⟨fun | 283 => 195 | n => n, fun | 3 => 3 | 9 => 9 | 4 => 4 | n => n, fun | n => n⟩
theorem lx_lays283 : Go.Proofs.Lays.n283 Tryz.prog lx_lays283_ren := {
 mixed := by kernel_rfl
 f283 := Tryz.func195.trans (congrArg some (by kernel_rfl))
 t3 := Tryz.underlying3
 a3 := Tryz.isAgg3
 z3 := Tryz.sizeOf3
 v3 := Tryz.zeroValue3
 t4 := Tryz.underlying4
 a4 := Tryz.isAgg4
 z4 := Tryz.sizeOf4
 v4 := Tryz.zeroValue4
 t9 := Tryz.underlying9
 a9 := Tryz.isAgg9
 z9 := Tryz.sizeOf9
 v9 := Tryz.zeroValue9 }
def lx_laysM284_ren : Go.Shelf.Ren := ⟨fun | 284 => 196 | 129 => 217 | 317 => 216 | 318 => 218 | n => n, fun | 53 => 149 | 3 => 3 | 212 => 278 | 0 => 0 | 4 => 4 | 46 => 170 | 5 => 5 | 9 => 9 | n => n, fun | 17 => 3 | n => n⟩
theorem lx_laysM284 : Go.Proofs.LaysM.n284 Tryz.prog lx_laysM284_ren := {
 mixed := by kernel_rfl
 f129 := Tryz.func217.trans (congrArg some (by kernel_rfl))
 f284 := Tryz.func196.trans (congrArg some (by kernel_rfl))
 f317 := Tryz.func216.trans (congrArg some (by kernel_rfl))
 f318 := Tryz.func218.trans (congrArg some (by kernel_rfl))
 t0 := Tryz.underlying0
 a0 := Tryz.isAgg0
 z0 := Tryz.sizeOf0
 v0 := Tryz.zeroValue0
 t3 := Tryz.underlying3
 a3 := Tryz.isAgg3
 z3 := Tryz.sizeOf3
 v3 := Tryz.zeroValue3
 t4 := Tryz.underlying4
 a4 := Tryz.isAgg4
 z4 := Tryz.sizeOf4
 v4 := Tryz.zeroValue4
 t5 := Tryz.underlying5
 a5 := Tryz.isAgg5
 z5 := Tryz.sizeOf5
 v5 := Tryz.zeroValue5
 t9 := Tryz.underlying9
 a9 := Tryz.isAgg9
 z9 := Tryz.sizeOf9
 v9 := Tryz.zeroValue9
 t46 := Tryz.underlying170
 a46 := Tryz.isAgg170
 z46 := Tryz.sizeOf170
 v46 := Tryz.zeroValue170
 t53 := Tryz.underlying149
 a53 := Tryz.isAgg149
 z53 := Tryz.sizeOf149
 v53 := Tryz.zeroValue149
 t212 := Tryz.underlying278
 a212 := Tryz.isAgg278
 z212 := Tryz.sizeOf278
 v212 := Tryz.zeroValue278
 g17 := by kernel_rfl
 i0 := by kernel_rfl
 i3 := by kernel_rfl
 i4 := by kernel_rfl
 i5 := by kernel_rfl
 i9 := by kernel_rfl
 i46 := by kernel_rfl
 i53 := by kernel_rfl
 i212 := by kernel_rfl
 m17 := by kernel_rfl }
def lx_lays285_ren : Go.Shelf.Ren := ⟨fun | 285 => 197 | n => n, fun | 37 => 38 | 53 => 149 | 3 => 3 | 4 => 4 | 51 => 22 | 9 => 9 | 5 => 5 | 0 => 0 | n => n, fun | n => n⟩
theorem lx_lays285 : Go.Proofs.Lays.n285 Tryz.prog lx_lays285_ren := {
 mixed := by kernel_rfl
 f285 := Tryz.func197.trans (congrArg some (by kernel_rfl))
 t0 := Tryz.underlying0
 a0 := Tryz.isAgg0
 z0 := Tryz.sizeOf0
 v0 := Tryz.zeroValue0
 t3 := Tryz.underlying3
 a3 := Tryz.isAgg3
 z3 := Tryz.sizeOf3
 v3 := Tryz.zeroValue3
 t4 := Tryz.underlying4
 a4 := Tryz.isAgg4
 z4 := Tryz.sizeOf4
 v4 := Tryz.zeroValue4
 t5 := Tryz.underlying5
 a5 := Tryz.isAgg5
 z5 := Tryz.sizeOf5
 v5 := Tryz.zeroValue5
 t9 := Tryz.underlying9
 a9 := Tryz.isAgg9
 z9 := Tryz.sizeOf9
 v9 := Tryz.zeroValue9
 t37 := Tryz.underlying38
 a37 := Tryz.isAgg38
 z37 := Tryz.sizeOf38
 v37 := Tryz.zeroValue38
 t51 := Tryz.underlying22
 a51 := Tryz.isAgg22
 z51 := Tryz.sizeOf22
 v51 := Tryz.zeroValue22
 t53 := Tryz.underlying149
 a53 := Tryz.isAgg149
 z53 := Tryz.sizeOf149
 v53 := Tryz.zeroValue149 }
def lx_laysC245_ren : Go.Shelf.Ren := ⟨fun | 245 => 145 | 279 => 189 | 280 => 190 | 281 => 191 | 282 => 192 | 316 => 213 | 171 => 215 | 205 => 214 | 243 => 226 | 246 => 229 | 283 => 195 | 284 => 196 | 285 => 197 | 286 => 198 | 129 => 217 | 317 => 216 | 318 => 218 | 319 => 219 | 320 => 220 | 337 => 227 | 338 => 228 | n => n, fun | 9 => 9 | 3 => 3 | 75 => 151 | 167 => 251 | 4 => 4 | 168 => 252 | 210 => 275 | 37 => 38 | 0 => 0 | 127 => 169 | 145 => 290 | 143 => 288 | 2 => 2 | 171 => 258 | 53 => 149 | 5 => 5 | 173 => 261 | 212 => 278 | 51 => 22 | 20 => 20 | 213 => 279 | 46 => 170 | 232 => 293 | 233 => 294 | 80 => 97 | n => n, fun | 15 => 1 | 16 => 2 | 17 => 3 | 18 => 4 | 19 => 5 | n => n⟩
theorem lx_laysC245 : Go.Proofs.LaysC.n245 Tryz.prog lx_laysC245_ren := {
 mixed := by kernel_rfl
 f129 := Tryz.func217.trans (congrArg some (by kernel_rfl))
 f171 := Tryz.func215.trans (congrArg some (by kernel_rfl))
 f205 := Tryz.func214.trans (congrArg some (by kernel_rfl))
 f243 := Tryz.func226.trans (congrArg some (by kernel_rfl))
 f245 := Tryz.func145.trans (congrArg some (by kernel_rfl))
 f246 := Tryz.func229.trans (congrArg some (by kernel_rfl))
 f279 := Tryz.func189.trans (congrArg some (by kernel_rfl))
 f280 := Tryz.func190.trans (congrArg some (by kernel_rfl))
 f281 := Tryz.func191.trans (congrArg some (by kernel_rfl))
 f282 := Tryz.func192.trans (congrArg some (by kernel_rfl))
 f283 := Tryz.func195.trans (congrArg some (by kernel_rfl))
 f284 := Tryz.func196.trans (congrArg some (by kernel_rfl))
 f285 := Tryz.func197.trans (congrArg some (by kernel_rfl))
 f286 := Tryz.func198.trans (congrArg some (by kernel_rfl))
 f316 := Tryz.func213.trans (congrArg some (by kernel_rfl))
 f317 := Tryz.func216.trans (congrArg some (by kernel_rfl))
 f318 := Tryz.func218.trans (congrArg some (by kernel_rfl))
 f319 := Tryz.func219.trans (congrArg some (by kernel_rfl))
 f320 := Tryz.func220.trans (congrArg some (by kernel_rfl))
 f337 := Tryz.func227.trans (congrArg some (by kernel_rfl))
 f338 := Tryz.func228.trans (congrArg some (by kernel_rfl))
 t0 := Tryz.underlying0
 a0 := Tryz.isAgg0
 z0 := Tryz.sizeOf0
 v0 := Tryz.zeroValue0
 t2 := Tryz.underlying2
 a2 := Tryz.isAgg2
 z2 := Tryz.sizeOf2
 v2 := Tryz.zeroValue2
 t3 := Tryz.underlying3
 a3 := Tryz.isAgg3
 z3 := Tryz.sizeOf3
 v3 := Tryz.zeroValue3
 t4 := Tryz.underlying4
 a4 := Tryz.isAgg4
 z4 := Tryz.sizeOf4
 v4 := Tryz.zeroValue4
 t5 := Tryz.underlying5
 a5 := Tryz.isAgg5
 z5 := Tryz.sizeOf5
 v5 := Tryz.zeroValue5
 t9 := Tryz.underlying9
 a9 := Tryz.isAgg9
 z9 := Tryz.sizeOf9
 v9 := Tryz.zeroValue9
 t20 := Tryz.underlying20
 a20 := Tryz.isAgg20
 z20 := Tryz.sizeOf20
 v20 := Tryz.zeroValue20
 t37 := Tryz.underlying38
 a37 := Tryz.isAgg38
 z37 := Tryz.sizeOf38
 v37 := Tryz.zeroValue38
 t46 := Tryz.underlying170
 a46 := Tryz.isAgg170
 z46 := Tryz.sizeOf170
 v46 := Tryz.zeroValue170
 t51 := Tryz.underlying22
 a51 := Tryz.isAgg22
 z51 := Tryz.sizeOf22
 v51 := Tryz.zeroValue22
 t53 := Tryz.underlying149
 a53 := Tryz.isAgg149
 z53 := Tryz.sizeOf149
 v53 := Tryz.zeroValue149
 t75 := Tryz.underlying151
 a75 := Tryz.isAgg151
 z75 := Tryz.sizeOf151
 v75 := Tryz.zeroValue151
 t127 := Tryz.underlying169
 a127 := Tryz.isAgg169
 z127 := Tryz.sizeOf169
 v127 := Tryz.zeroValue169
 t143 := Tryz.underlying288
 a143 := Tryz.isAgg288
 z143 := Tryz.sizeOf288
 v143 := Tryz.zeroValue288
 t145 := Tryz.underlying290
 a145 := Tryz.isAgg290
 z145 := Tryz.sizeOf290
 v145 := Tryz.zeroValue290
 t167 := Tryz.underlying251
 a167 := Tryz.isAgg251
 z167 := Tryz.sizeOf251
 v167 := Tryz.zeroValue251
 t168 := Tryz.underlying252
 a168 := Tryz.isAgg252
 z168 := Tryz.sizeOf252
 v168 := Tryz.zeroValue252
 t171 := Tryz.underlying258
 a171 := Tryz.isAgg258
 z171 := Tryz.sizeOf258
 v171 := Tryz.zeroValue258
 t173 := Tryz.underlying261
 a173 := Tryz.isAgg261
 z173 := Tryz.sizeOf261
 v173 := Tryz.zeroValue261
 t210 := Tryz.underlying275
 a210 := Tryz.isAgg275
 z210 := Tryz.sizeOf275
 v210 := Tryz.zeroValue275
 t212 := Tryz.underlying278
 a212 := Tryz.isAgg278
 z212 := Tryz.sizeOf278
 v212 := Tryz.zeroValue278
 t213 := Tryz.underlying279
 a213 := Tryz.isAgg279
 z213 := Tryz.sizeOf279
 t232 := Tryz.underlying293
 a232 := Tryz.isAgg293
 z232 := Tryz.sizeOf293
 v232 := Tryz.zeroValue293
 t233 := Tryz.underlying294
 a233 := Tryz.isAgg294
 z233 := Tryz.sizeOf294
 v233 := Tryz.zeroValue294
 g15 := by kernel_rfl
 g16 := by kernel_rfl
 g17 := by kernel_rfl
 g18 := by kernel_rfl
 g19 := by kernel_rfl
 t80 := Tryz.underlying97
 a80 := Tryz.isAgg97
 z80 := Tryz.sizeOf97
 v80 := Tryz.zeroValue97
 i0 := by kernel_rfl
 i2 := by kernel_rfl
 i3 := by kernel_rfl
 i4 := by kernel_rfl
 i5 := by kernel_rfl
 i9 := by kernel_rfl
 i20 := by kernel_rfl
 i37 := by kernel_rfl
 i46 := by kernel_rfl
 i51 := by kernel_rfl
 i53 := by kernel_rfl
 i75 := by kernel_rfl
 i80 := by kernel_rfl
 i127 := by kernel_rfl
 i143 := by kernel_rfl
 i145 := by kernel_rfl
 i167 := by kernel_rfl
 i168 := by kernel_rfl
 i171 := by kernel_rfl
 i173 := by kernel_rfl
 i210 := by kernel_rfl
 i212 := by kernel_rfl
 i232 := by kernel_rfl
 i233 := by kernel_rfl
 m15 := by kernel_rfl
 m16 := by kernel_rfl
 m17 := by kernel_rfl
 m18 := by kernel_rfl
 m19 := by kernel_rfl
 c0 := by kernel_rfl
 c2 := by kernel_rfl
 c3 := by kernel_rfl
 c4 := by kernel_rfl
 c5 := by kernel_rfl
 c9 := by kernel_rfl
 c20 := by kernel_rfl
 c37 := by kernel_rfl
 c46 := by kernel_rfl
 c51 := by kernel_rfl
 c53 := by kernel_rfl
 c75 := by kernel_rfl
 c80 := by kernel_rfl
 c127 := by kernel_rfl
 c143 := by kernel_rfl
 c145 := by kernel_rfl
 c167 := by kernel_rfl
 c168 := by kernel_rfl
 c171 := by kernel_rfl
 c173 := by kernel_rfl
 c210 := by kernel_rfl
 c212 := by kernel_rfl
 c213 := by kernel_rfl
 c232 := by kernel_rfl
 c233 := by kernel_rfl }
def lx_lays321_ren : Go.Shelf.Ren := ⟨fun | 321 => 187 | n => n, fun | 5 => 5 | n => n, fun | n => n⟩
theorem lx_lays321 : Go.Proofs.Lays.n321 Tryz.prog lx_lays321_ren := {
 mixed := by kernel_rfl
 f321 := Tryz.func187.trans (congrArg some (by kernel_rfl))
 t5 := Tryz.underlying5
 a5 := Tryz.isAgg5
 z5 := Tryz.sizeOf5
 v5 := Tryz.zeroValue5 }
def lx_laysPu14_ren : Go.Shelf.Ren := ⟨fun | 14 => 86 | 16 => 144 | 17 => 145 | 19 => 187 | 20 => 188 | 21 => 189 | 22 => 190 | 23 => 191 | 24 => 192 | 25 => 213 | 27 => 215 | 26 => 214 | 28 => 226 | 29 => 229 | 30 => 195 | 31 => 196 | 32 => 197 | 33 => 198 | 35 => 217 | 34 => 216 | 36 => 218 | 37 => 219 | 38 => 220 | 39 => 227 | 40 => 228 | n => n, fun | 9 => 9 | 3 => 3 | 22 => 149 | 24 => 151 | 25 => 152 | 4 => 4 | 34 => 251 | 5 => 5 | 36 => 170 | 37 => 38 | 0 => 0 | 39 => 252 | 21 => 21 | 44 => 275 | 47 => 169 | 50 => 290 | 48 => 288 | 2 => 2 | 52 => 258 | 55 => 261 | 59 => 278 | 60 => 22 | 20 => 20 | 61 => 279 | 65 => 293 | 66 => 294 | 67 => 97 | n => n, fun | 0 => 1 | 1 => 2 | 2 => 3 | 3 => 4 | 4 => 5 | n => n⟩
theorem lx_laysPu14 : Go.Proofs.LaysPu.n14 Tryz.prog lx_laysPu14_ren := {
 mixed := by kernel_rfl
 f14 := Tryz.func86.trans (congrArg some (by kernel_rfl))
 f16 := Tryz.func144.trans (congrArg some (by kernel_rfl))
 f17 := Tryz.func145.trans (congrArg some (by kernel_rfl))
 f19 := Tryz.func187.trans (congrArg some (by kernel_rfl))
 f20 := Tryz.func188.trans (congrArg some (by kernel_rfl))
 f21 := Tryz.func189.trans (congrArg some (by kernel_rfl))
 f22 := Tryz.func190.trans (congrArg some (by kernel_rfl))
 f23 := Tryz.func191.trans (congrArg some (by kernel_rfl))
 f24 := Tryz.func192.trans (congrArg some (by kernel_rfl))
 f25 := Tryz.func213.trans (congrArg some (by kernel_rfl))
 f26 := Tryz.func214.trans (congrArg some (by kernel_rfl))
 f27 := Tryz.func215.trans (congrArg some (by kernel_rfl))
 f28 := Tryz.func226.trans (congrArg some (by kernel_rfl))
 f29 := Tryz.func229.trans (congrArg some (by kernel_rfl))
 f30 := Tryz.func195.trans (congrArg some (by kernel_rfl))
 f31 := Tryz.func196.trans (congrArg some (by kernel_rfl))
 f32 := Tryz.func197.trans (congrArg some (by kernel_rfl))
 f33 := Tryz.func198.trans (congrArg some (by kernel_rfl))
 f34 := Tryz.func216.trans (congrArg some (by kernel_rfl))
 f35 := Tryz.func217.trans (congrArg some (by kernel_rfl))
 f36 := Tryz.func218.trans (congrArg some (by kernel_rfl))
 f37 := Tryz.func219.trans (congrArg some (by kernel_rfl))
 f38 := Tryz.func220.trans (congrArg some (by kernel_rfl))
 f39 := Tryz.func227.trans (congrArg some (by kernel_rfl))
 f40 := Tryz.func228.trans (congrArg some (by kernel_rfl))
 t0 := Tryz.underlying0
 a0 := Tryz.isAgg0
 z0 := Tryz.sizeOf0
 v0 := Tryz.zeroValue0
 i0 := by kernel_rfl
 t2 := Tryz.underlying2
 a2 := Tryz.isAgg2
 z2 := Tryz.sizeOf2
 v2 := Tryz.zeroValue2
 i2 := by kernel_rfl
 t3 := Tryz.underlying3
 a3 := Tryz.isAgg3
 z3 := Tryz.sizeOf3
 v3 := Tryz.zeroValue3
 i3 := by kernel_rfl
 t4 := Tryz.underlying4
 a4 := Tryz.isAgg4
 z4 := Tryz.sizeOf4
 v4 := Tryz.zeroValue4
 i4 := by kernel_rfl
 t5 := Tryz.underlying5
 a5 := Tryz.isAgg5
 z5 := Tryz.sizeOf5
 v5 := Tryz.zeroValue5
 i5 := by kernel_rfl
 t9 := Tryz.underlying9
 a9 := Tryz.isAgg9
 z9 := Tryz.sizeOf9
 v9 := Tryz.zeroValue9
 i9 := by kernel_rfl
 t20 := Tryz.underlying20
 a20 := Tryz.isAgg20
 z20 := Tryz.sizeOf20
 v20 := Tryz.zeroValue20
 i20 := by kernel_rfl
 t21 := Tryz.underlying21
 a21 := Tryz.isAgg21
 z21 := Tryz.sizeOf21
 v21 := Tryz.zeroValue21
 i21 := by kernel_rfl
 t22 := Tryz.underlying149
 a22 := Tryz.isAgg149
 z22 := Tryz.sizeOf149
 v22 := Tryz.zeroValue149
 i22 := by kernel_rfl
 t24 := Tryz.underlying151
 a24 := Tryz.isAgg151
 z24 := Tryz.sizeOf151
 v24 := Tryz.zeroValue151
 i24 := by kernel_rfl
 t25 := Tryz.underlying152
 a25 := Tryz.isAgg152
 z25 := Tryz.sizeOf152
 v25 := Tryz.zeroValue152
 i25 := by kernel_rfl
 t34 := Tryz.underlying251
 a34 := Tryz.isAgg251
 z34 := Tryz.sizeOf251
 v34 := Tryz.zeroValue251
 i34 := by kernel_rfl
 c34 := by kernel_rfl
 t36 := Tryz.underlying170
 a36 := Tryz.isAgg170
 z36 := Tryz.sizeOf170
 v36 := Tryz.zeroValue170
 i36 := by kernel_rfl
 t37 := Tryz.underlying38
 a37 := Tryz.isAgg38
 z37 := Tryz.sizeOf38
 v37 := Tryz.zeroValue38
 i37 := by kernel_rfl
 t39 := Tryz.underlying252
 a39 := Tryz.isAgg252
 z39 := Tryz.sizeOf252
 v39 := Tryz.zeroValue252
 i39 := by kernel_rfl
 t44 := Tryz.underlying275
 a44 := Tryz.isAgg275
 z44 := Tryz.sizeOf275
 v44 := Tryz.zeroValue275
 i44 := by kernel_rfl
 t47 := Tryz.underlying169
 a47 := Tryz.isAgg169
 z47 := Tryz.sizeOf169
 v47 := Tryz.zeroValue169
 i47 := by kernel_rfl
 t48 := Tryz.underlying288
 a48 := Tryz.isAgg288
 z48 := Tryz.sizeOf288
 v48 := Tryz.zeroValue288
 i48 := by kernel_rfl
 t50 := Tryz.underlying290
 a50 := Tryz.isAgg290
 z50 := Tryz.sizeOf290
 v50 := Tryz.zeroValue290
 i50 := by kernel_rfl
 t52 := Tryz.underlying258
 a52 := Tryz.isAgg258
 z52 := Tryz.sizeOf258
 v52 := Tryz.zeroValue258
 i52 := by kernel_rfl
 t55 := Tryz.underlying261
 a55 := Tryz.isAgg261
 z55 := Tryz.sizeOf261
 v55 := Tryz.zeroValue261
 i55 := by kernel_rfl
 t59 := Tryz.underlying278
 a59 := Tryz.isAgg278
 z59 := Tryz.sizeOf278
 v59 := Tryz.zeroValue278
 i59 := by kernel_rfl
 t60 := Tryz.underlying22
 a60 := Tryz.isAgg22
 z60 := Tryz.sizeOf22
 v60 := Tryz.zeroValue22
 i60 := by kernel_rfl
 t61 := Tryz.underlying279
 a61 := Tryz.isAgg279
 z61 := Tryz.sizeOf279
 t65 := Tryz.underlying293
 a65 := Tryz.isAgg293
 z65 := Tryz.sizeOf293
 v65 := Tryz.zeroValue293
 i65 := by kernel_rfl
 t66 := Tryz.underlying294
 a66 := Tryz.isAgg294
 z66 := Tryz.sizeOf294
 v66 := Tryz.zeroValue294
 i66 := by kernel_rfl
 t67 := Tryz.underlying97
 a67 := Tryz.isAgg97
 z67 := Tryz.sizeOf97
 v67 := Tryz.zeroValue97
 i67 := by kernel_rfl
 g0 := by kernel_rfl
 m0 := by kernel_rfl
 g1 := by kernel_rfl
 m1 := by kernel_rfl
 g2 := by kernel_rfl
 m2 := by kernel_rfl
 g3 := by kernel_rfl
 m3 := by kernel_rfl
 g4 := by kernel_rfl
 m4 := by kernel_rfl }
end Go.SK
namespace Go.SK
open Go Go.Proofs
theorem ent167 : Enters Tryz.prog 167 := ⟨Tryz.f167, _, Tryz.func167, by kernel_rfl, rfl⟩
theorem ty5 : TyF Tryz.prog 5 (.int .u8) 1 1 [.int .u8 0] := TyF.of (by kernel_rfl) (by kernel_rfl)
theorem ty149 : TyF Tryz.prog 149 (.int .u64) 1 8 [.int .u64 0] := TyF.of (by kernel_rfl) (by kernel_rfl)
end Go.SK
namespace Go.SK
open Go Go.Proofs
open Go.RowKit
theorem R7lx_Letter (c : UInt8) (w : World) : Ret Tryz.prog 162 #[.int .u8 (c.toNat : Int)] w (fun v w' => v = .bool (letB c) ∧ St w NoM [] [] w') := by
 refine Ret.enter (args := [.int .u8 (c.toNat : Int)]) Tryz.func162 rfl rfl rfl ?_
 have hst := St.init w
 refine SR <| AB rfl <| NSR <| MC rfl <| CN <| Op1.geq rfl rfl <| MB rfl <| RunL.splitD (d := 5) rfl (fun g1 => ?_) (fun g1 => ?_)
 · skip
   refine TK (t := 5) rfl (congrArg Value.bool (decide_eq_true g1)) <| Op1.move (v := .int .u8 _) rfl <| TK (t := 5) rfl (congrArg Value.bool (decide_eq_true g1)) <| Op1.leq rfl rfl <| CN <| Op1.pickT (u := .bool _) (congrArg Value.bool (decide_eq_true g1)) rfl <| MB rfl <| RunL.splitD (d := 9) rfl (fun g2 => ?_) (fun g2 => ?_)
   · skip
     refine OM (t := 9) rfl (congrArg Value.bool (decide_eq_true g2)) rfl <| OM (t := 9) rfl (congrArg Value.bool (decide_eq_true g2)) rfl <| OM (t := 9) rfl (congrArg Value.bool (decide_eq_true g2)) rfl <| RunL.omitU (t := 12) rfl rfl <| RunL.omitU (t := 12) rfl rfl <| OM (t := 9) rfl (congrArg Value.bool (decide_eq_true g2)) rfl <| CN <| Op1.pickT (u := .bool _) (congrArg Value.bool (decide_eq_true g2)) rfl <| MB rfl <| OM (t := 17) rfl (congrArg Value.bool (rfl : true = _)) rfl <| OM (t := 17) rfl (congrArg Value.bool (rfl : true = _)) rfl <| CN <| Op1.pickT (u := .bool _) (congrArg Value.bool (rfl : true = _)) rfl <| AB rfl <| NL <| run_ret1 Tryz.func162 rfl (TP (v := .bool _) rfl) <| ⟨congrArg Value.bool ?_, hst.pure⟩
     unfold letB
     first | (rw [decide_eq_decide]; omega) | exact (decide_eq_false (by omega)).symm | exact (decide_eq_true (by omega)).symm
   refine TK (t := 9) rfl (congrArg Value.bool (decide_eq_false g2)) <| Op1.move (v := .int .u8 _) rfl <| TK (t := 9) rfl (congrArg Value.bool (decide_eq_false g2)) <| Op1.geq rfl rfl <| TK (t := 9) rfl (congrArg Value.bool (decide_eq_false g2)) <| Op1.move (v := .bool _) rfl <| RunL.splitD (d := 12) rfl (fun g3 => ?_) (fun g3 => ?_)
   · skip
     refine TK (t := 12) rfl (congrArg Value.bool (decide_eq_true g3)) <| Op1.move (v := .int .u8 _) rfl <| TK (t := 12) rfl (congrArg Value.bool (decide_eq_true g3)) <| Op1.leq rfl rfl <| TK (t := 9) rfl (congrArg Value.bool (decide_eq_false g2)) <| Op1.pickT (u := .bool _) (congrArg Value.bool (decide_eq_true g3)) rfl <| CN <| Op1.pickF (u := .bool _) (congrArg Value.bool (decide_eq_false g2)) rfl <| MB rfl <| RunL.splitD (d := 17) rfl (fun g4 => ?_) (fun g4 => ?_)
     · skip
       refine OM (t := 17) rfl (congrArg Value.bool (decide_eq_true g4)) rfl <| OM (t := 17) rfl (congrArg Value.bool (decide_eq_true g4)) rfl <| CN <| Op1.pickT (u := .bool _) (congrArg Value.bool (decide_eq_true g4)) rfl <| AB rfl <| NL <| run_ret1 Tryz.func162 rfl (TP (v := .bool _) rfl) <| ⟨congrArg Value.bool ?_, hst.pure⟩
       unfold letB
       first | (rw [decide_eq_decide]; omega) | exact (decide_eq_false (by omega)).symm | exact (decide_eq_true (by omega)).symm
     refine TK (t := 17) rfl (congrArg Value.bool (decide_eq_false g4)) <| Op1.move (v := .int .u8 _) rfl <| TK (t := 17) rfl (congrArg Value.bool (decide_eq_false g4)) <| Op1.eql rfl rfl <| CN <| Op1.pickF (u := .bool _) (congrArg Value.bool (decide_eq_false g4)) rfl <| AB rfl <| NL <| run_ret1 Tryz.func162 rfl (TP (v := .bool _) rfl) <| ⟨congrArg Value.bool ?_, hst.pure⟩
     unfold letB
     first | (rw [decide_eq_decide]; omega) | exact (decide_eq_false (by omega)).symm | exact (decide_eq_true (by omega)).symm
   refine OM (t := 12) rfl (congrArg Value.bool (decide_eq_false g3)) rfl <| OM (t := 12) rfl (congrArg Value.bool (decide_eq_false g3)) rfl <| TK (t := 9) rfl (congrArg Value.bool (decide_eq_false g2)) <| Op1.pickF (u := .bool _) (congrArg Value.bool (decide_eq_false g3)) rfl <| CN <| Op1.pickF (u := .bool _) (congrArg Value.bool (decide_eq_false g2)) rfl <| MB rfl <| TK (t := 17) rfl (congrArg Value.bool (rfl : false = _)) <| Op1.move (v := .int .u8 _) rfl <| TK (t := 17) rfl (congrArg Value.bool (rfl : false = _)) <| Op1.eql rfl rfl <| CN <| Op1.pickF (u := .bool _) (congrArg Value.bool (rfl : false = _)) rfl <| AB rfl <| NL <| run_ret1 Tryz.func162 rfl (TP (v := .bool _) rfl) <| ⟨congrArg Value.bool ?_, hst.pure⟩
   unfold letB
   first | (rw [decide_eq_decide]; omega) | exact (decide_eq_false (by omega)).symm | exact (decide_eq_true (by omega)).symm
 refine OM (t := 5) rfl (congrArg Value.bool (decide_eq_false g1)) rfl <| OM (t := 5) rfl (congrArg Value.bool (decide_eq_false g1)) rfl <| CN <| Op1.pickF (u := .bool _) (congrArg Value.bool (decide_eq_false g1)) rfl <| MB rfl <| TK (t := 9) rfl (congrArg Value.bool (rfl : false = _)) <| Op1.move (v := .int .u8 _) rfl <| TK (t := 9) rfl (congrArg Value.bool (rfl : false = _)) <| Op1.geq rfl rfl <| TK (t := 9) rfl (congrArg Value.bool (rfl : false = _)) <| Op1.move (v := .bool _) rfl <| RunL.splitD (d := 12) rfl (fun g5 => ?_) (fun g5 => ?_)
 · skip
   refine TK (t := 12) rfl (congrArg Value.bool (decide_eq_true g5)) <| Op1.move (v := .int .u8 _) rfl <| TK (t := 12) rfl (congrArg Value.bool (decide_eq_true g5)) <| Op1.leq rfl rfl <| TK (t := 9) rfl (congrArg Value.bool (rfl : false = _)) <| Op1.pickT (u := .bool _) (congrArg Value.bool (decide_eq_true g5)) rfl <| CN <| Op1.pickF (u := .bool _) (congrArg Value.bool (rfl : false = _)) rfl <| MB rfl <| RunL.splitD (d := 17) rfl (fun g6 => ?_) (fun g6 => ?_)
   · skip
     refine OM (t := 17) rfl (congrArg Value.bool (decide_eq_true g6)) rfl <| OM (t := 17) rfl (congrArg Value.bool (decide_eq_true g6)) rfl <| CN <| Op1.pickT (u := .bool _) (congrArg Value.bool (decide_eq_true g6)) rfl <| AB rfl <| NL <| run_ret1 Tryz.func162 rfl (TP (v := .bool _) rfl) <| ⟨congrArg Value.bool ?_, hst.pure⟩
     unfold letB
     first | (rw [decide_eq_decide]; omega) | exact (decide_eq_false (by omega)).symm | exact (decide_eq_true (by omega)).symm
   refine TK (t := 17) rfl (congrArg Value.bool (decide_eq_false g6)) <| Op1.move (v := .int .u8 _) rfl <| TK (t := 17) rfl (congrArg Value.bool (decide_eq_false g6)) <| Op1.eql rfl rfl <| CN <| Op1.pickF (u := .bool _) (congrArg Value.bool (decide_eq_false g6)) rfl <| AB rfl <| NL <| run_ret1 Tryz.func162 rfl (TP (v := .bool _) rfl) <| ⟨congrArg Value.bool ?_, hst.pure⟩
   unfold letB
   first | (rw [decide_eq_decide]; omega) | exact (decide_eq_false (by omega)).symm | exact (decide_eq_true (by omega)).symm
 refine OM (t := 12) rfl (congrArg Value.bool (decide_eq_false g5)) rfl <| OM (t := 12) rfl (congrArg Value.bool (decide_eq_false g5)) rfl <| TK (t := 9) rfl (congrArg Value.bool (rfl : false = _)) <| Op1.pickF (u := .bool _) (congrArg Value.bool (decide_eq_false g5)) rfl <| CN <| Op1.pickF (u := .bool _) (congrArg Value.bool (rfl : false = _)) rfl <| MB rfl <| TK (t := 17) rfl (congrArg Value.bool (rfl : false = _)) <| Op1.move (v := .int .u8 _) rfl <| TK (t := 17) rfl (congrArg Value.bool (rfl : false = _)) <| Op1.eql rfl rfl <| CN <| Op1.pickF (u := .bool _) (congrArg Value.bool (rfl : false = _)) rfl <| AB rfl <| NL <| run_ret1 Tryz.func162 rfl (TP (v := .bool _) rfl) <| ⟨congrArg Value.bool ?_, hst.pure⟩
 unfold letB
 first | (rw [decide_eq_decide]; omega) | exact (decide_eq_false (by omega)).symm | exact (decide_eq_true (by omega)).symm
theorem R7lx_Digit (c : UInt8) (w : World) : Ret Tryz.prog 167 #[.int .u8 (c.toNat : Int)] w (fun v w' => v = .bool (digB c) ∧ St w NoM [] [] w') := by
 refine Ret.enter (args := [.int .u8 (c.toNat : Int)]) Tryz.func167 rfl rfl rfl ?_
 have hst := St.init w
 refine SR <| AB rfl <| NSR <| MC rfl <| CN <| Op1.geq rfl rfl <| MB rfl <| RunL.splitD (d := 5) rfl (fun g1 => ?_) (fun g1 => ?_)
 · skip
   refine TK (t := 5) rfl (congrArg Value.bool (decide_eq_true g1)) <| Op1.move (v := .int .u8 _) rfl <| TK (t := 5) rfl (congrArg Value.bool (decide_eq_true g1)) <| Op1.leq rfl rfl <| CN <| Op1.pickT (u := .bool _) (congrArg Value.bool (decide_eq_true g1)) rfl <| AB rfl <| NL <| run_ret1 Tryz.func167 rfl (TP (v := .bool _) rfl) <| ⟨congrArg Value.bool ?_, hst.pure⟩
   unfold digB
   first | (rw [decide_eq_decide]; omega) | exact (decide_eq_false (by omega)).symm | exact (decide_eq_true (by omega)).symm
 refine OM (t := 5) rfl (congrArg Value.bool (decide_eq_false g1)) rfl <| OM (t := 5) rfl (congrArg Value.bool (decide_eq_false g1)) rfl <| CN <| Op1.pickF (u := .bool _) (congrArg Value.bool (decide_eq_false g1)) rfl <| AB rfl <| NL <| run_ret1 Tryz.func167 rfl (TP (v := .bool _) rfl) <| ⟨congrArg Value.bool ?_, hst.pure⟩
 unfold digB
 first | (rw [decide_eq_decide]; omega) | exact (decide_eq_false (by omega)).symm | exact (decide_eq_true (by omega)).symm
theorem R7lx_Blank (c : UInt8) (w : World) : Ret Tryz.prog 117 #[.int .u8 (c.toNat : Int)] w (fun v w' => v = .bool (blankB c) ∧ St w NoM [] [] w') := by
 refine Ret.enter (args := [.int .u8 (c.toNat : Int)]) Tryz.func117 rfl rfl rfl ?_
 have hst := St.init w
 refine SR <| AB rfl <| NSR <| MC rfl <| CN <| Op1.eql rfl rfl <| MB rfl <| RunL.splitD (d := 5) rfl (fun g1 => ?_) (fun g1 => ?_)
 · skip
   refine OM (t := 5) rfl (congrArg Value.bool (decide_eq_true g1)) rfl <| OM (t := 5) rfl (congrArg Value.bool (decide_eq_true g1)) rfl <| CN <| Op1.pickT (u := .bool _) (congrArg Value.bool (decide_eq_true g1)) rfl <| MB rfl <| OM (t := 9) rfl (congrArg Value.bool (rfl : true = _)) rfl <| OM (t := 9) rfl (congrArg Value.bool (rfl : true = _)) rfl <| CN <| Op1.pickT (u := .bool _) (congrArg Value.bool (rfl : true = _)) rfl <| AB rfl <| NL <| run_ret1 Tryz.func117 rfl (TP (v := .bool _) rfl) <| ⟨congrArg Value.bool ?_, hst.pure⟩
   unfold blankB
   first | (rw [decide_eq_decide]; omega) | exact (decide_eq_false (by omega)).symm | exact (decide_eq_true (by omega)).symm
 refine TK (t := 5) rfl (congrArg Value.bool (decide_eq_false g1)) <| Op1.move (v := .int .u8 _) rfl <| TK (t := 5) rfl (congrArg Value.bool (decide_eq_false g1)) <| Op1.eql rfl rfl <| CN <| Op1.pickF (u := .bool _) (congrArg Value.bool (decide_eq_false g1)) rfl <| MB rfl <| RunL.splitD (d := 9) rfl (fun g2 => ?_) (fun g2 => ?_)
 · skip
   refine OM (t := 9) rfl (congrArg Value.bool (decide_eq_true g2)) rfl <| OM (t := 9) rfl (congrArg Value.bool (decide_eq_true g2)) rfl <| CN <| Op1.pickT (u := .bool _) (congrArg Value.bool (decide_eq_true g2)) rfl <| AB rfl <| NL <| run_ret1 Tryz.func117 rfl (TP (v := .bool _) rfl) <| ⟨congrArg Value.bool ?_, hst.pure⟩
   unfold blankB
   first | (rw [decide_eq_decide]; omega) | exact (decide_eq_false (by omega)).symm | exact (decide_eq_true (by omega)).symm
 refine TK (t := 9) rfl (congrArg Value.bool (decide_eq_false g2)) <| Op1.move (v := .int .u8 _) rfl <| TK (t := 9) rfl (congrArg Value.bool (decide_eq_false g2)) <| Op1.eql rfl rfl <| CN <| Op1.pickF (u := .bool _) (congrArg Value.bool (decide_eq_false g2)) rfl <| AB rfl <| NL <| run_ret1 Tryz.func117 rfl (TP (v := .bool _) rfl) <| ⟨congrArg Value.bool ?_, hst.pure⟩
 unfold blankB
 first | (rw [decide_eq_decide]; omega) | exact (decide_eq_false (by omega)).symm | exact (decide_eq_true (by omega)).symm
theorem R7lx_Hex (c : UInt8) (w : World) : Ret Tryz.prog 169 #[.int .u8 (c.toNat : Int)] w (fun v w' => v = .bool (hexB c) ∧ St w NoM [] [] w') := by
 refine Ret.enter (args := [.int .u8 (c.toNat : Int)]) Tryz.func169 rfl rfl rfl ?_
 have hst := St.init w
 refine SR <| AB rfl <| NSR <| MC rfl <| CN <| Op1.call1 (v1 := .int .u8 _) ent167 rfl rfl <| Ret.det (R7lx_Digit _ _) hst fun w hst => MB rfl <| RunL.split (d := 5) rfl (fun g1 => ?_) (fun g1 => ?_)
 · skip
   have hdb := dig_bd g1
   refine OM (t := 5) rfl (congrArg Value.bool g1) rfl <| OM (t := 5) rfl (congrArg Value.bool g1) rfl <| OM (t := 5) rfl (congrArg Value.bool g1) rfl <| RunL.omitU (t := 8) rfl rfl <| RunL.omitU (t := 8) rfl rfl <| OM (t := 5) rfl (congrArg Value.bool g1) rfl <| CN <| Op1.pickT (u := .bool _) (congrArg Value.bool g1) rfl <| MB rfl <| OM (t := 13) rfl (congrArg Value.bool (rfl : true = _)) rfl <| OM (t := 13) rfl (congrArg Value.bool (rfl : true = _)) rfl <| OM (t := 13) rfl (congrArg Value.bool (rfl : true = _)) rfl <| RunL.omitU (t := 16) rfl rfl <| RunL.omitU (t := 16) rfl rfl <| OM (t := 13) rfl (congrArg Value.bool (rfl : true = _)) rfl <| CN (Op1.pickT (u := .bool _) (congrArg Value.bool (rfl : true = _)) rfl ?_)
   refine AB rfl <| NL <| run_ret1 Tryz.func169 rfl (TP (v := .bool _) rfl) <| ⟨congrArg Value.bool ?_, hst.pure⟩
   unfold hexB
   first | (rw [decide_eq_decide]; omega) | exact (decide_eq_false (by omega)).symm | exact (decide_eq_true (by omega)).symm
 have hdb : ¬ (48 ≤ c.toNat ∧ c.toNat ≤ 57) := of_decide_eq_false (p := 48 ≤ c.toNat ∧ c.toNat ≤ 57) g1
 refine TK (t := 5) rfl (congrArg Value.bool g1) <| Op1.move (v := .int .u8 _) rfl <| TK (t := 5) rfl (congrArg Value.bool g1) <| Op1.geq rfl rfl <| TK (t := 5) rfl (congrArg Value.bool g1) <| Op1.move (v := .bool _) rfl <| RunL.splitD (d := 8) rfl (fun g2 => ?_) (fun g2 => ?_)
 · skip
   refine TK (t := 8) rfl (congrArg Value.bool (decide_eq_true g2)) <| Op1.move (v := .int .u8 _) rfl <| TK (t := 8) rfl (congrArg Value.bool (decide_eq_true g2)) <| Op1.leq rfl rfl <| TK (t := 5) rfl (congrArg Value.bool g1) <| Op1.pickT (u := .bool _) (congrArg Value.bool (decide_eq_true g2)) rfl <| CN <| Op1.pickF (u := .bool _) (congrArg Value.bool g1) rfl <| MB rfl <| RunL.splitD (d := 13) rfl (fun g3 => ?_) (fun g3 => ?_)
   · skip
     refine OM (t := 13) rfl (congrArg Value.bool (decide_eq_true g3)) rfl <| OM (t := 13) rfl (congrArg Value.bool (decide_eq_true g3)) rfl <| OM (t := 13) rfl (congrArg Value.bool (decide_eq_true g3)) rfl <| RunL.omitU (t := 16) rfl rfl <| RunL.omitU (t := 16) rfl rfl <| OM (t := 13) rfl (congrArg Value.bool (decide_eq_true g3)) rfl <| CN <| Op1.pickT (u := .bool _) (congrArg Value.bool (decide_eq_true g3)) rfl <| AB rfl <| NL <| run_ret1 Tryz.func169 rfl (TP (v := .bool _) rfl) <| ⟨congrArg Value.bool ?_, hst.pure⟩
     unfold hexB
     first | (rw [decide_eq_decide]; omega) | exact (decide_eq_false (by omega)).symm | exact (decide_eq_true (by omega)).symm
   refine TK (t := 13) rfl (congrArg Value.bool (decide_eq_false g3)) <| Op1.move (v := .int .u8 _) rfl <| TK (t := 13) rfl (congrArg Value.bool (decide_eq_false g3)) <| Op1.geq rfl rfl <| TK (t := 13) rfl (congrArg Value.bool (decide_eq_false g3)) <| Op1.move (v := .bool _) rfl <| RunL.splitD (d := 16) rfl (fun g4 => ?_) (fun g4 => ?_)
   · skip
     refine TK (t := 16) rfl (congrArg Value.bool (decide_eq_true g4)) <| Op1.move (v := .int .u8 _) rfl <| TK (t := 16) rfl (congrArg Value.bool (decide_eq_true g4)) <| Op1.leq rfl rfl <| TK (t := 13) rfl (congrArg Value.bool (decide_eq_false g3)) <| Op1.pickT (u := .bool _) (congrArg Value.bool (decide_eq_true g4)) rfl <| CN <| Op1.pickF (u := .bool _) (congrArg Value.bool (decide_eq_false g3)) rfl <| AB rfl <| NL <| run_ret1 Tryz.func169 rfl (TP (v := .bool _) rfl) <| ⟨congrArg Value.bool ?_, hst.pure⟩
     unfold hexB
     first | (rw [decide_eq_decide]; omega) | exact (decide_eq_false (by omega)).symm | exact (decide_eq_true (by omega)).symm
   refine OM (t := 16) rfl (congrArg Value.bool (decide_eq_false g4)) rfl <| OM (t := 16) rfl (congrArg Value.bool (decide_eq_false g4)) rfl <| TK (t := 13) rfl (congrArg Value.bool (decide_eq_false g3)) <| Op1.pickF (u := .bool _) (congrArg Value.bool (decide_eq_false g4)) rfl <| CN <| Op1.pickF (u := .bool _) (congrArg Value.bool (decide_eq_false g3)) rfl <| AB rfl <| NL <| run_ret1 Tryz.func169 rfl (TP (v := .bool _) rfl) <| ⟨congrArg Value.bool ?_, hst.pure⟩
   unfold hexB
   first | (rw [decide_eq_decide]; omega) | exact (decide_eq_false (by omega)).symm | exact (decide_eq_true (by omega)).symm
 refine OM (t := 8) rfl (congrArg Value.bool (decide_eq_false g2)) rfl <| OM (t := 8) rfl (congrArg Value.bool (decide_eq_false g2)) rfl <| TK (t := 5) rfl (congrArg Value.bool g1) <| Op1.pickF (u := .bool _) (congrArg Value.bool (decide_eq_false g2)) rfl <| CN <| Op1.pickF (u := .bool _) (congrArg Value.bool g1) rfl <| MB rfl <| TK (t := 13) rfl (congrArg Value.bool (rfl : false = _)) <| Op1.move (v := .int .u8 _) rfl <| TK (t := 13) rfl (congrArg Value.bool (rfl : false = _)) <| Op1.geq rfl rfl <| TK (t := 13) rfl (congrArg Value.bool (rfl : false = _)) <| Op1.move (v := .bool _) rfl <| RunL.splitD (d := 16) rfl (fun g5 => ?_) (fun g5 => ?_)
 · skip
   refine TK (t := 16) rfl (congrArg Value.bool (decide_eq_true g5)) <| Op1.move (v := .int .u8 _) rfl <| TK (t := 16) rfl (congrArg Value.bool (decide_eq_true g5)) <| Op1.leq rfl rfl <| TK (t := 13) rfl (congrArg Value.bool (rfl : false = _)) <| Op1.pickT (u := .bool _) (congrArg Value.bool (decide_eq_true g5)) rfl <| CN <| Op1.pickF (u := .bool _) (congrArg Value.bool (rfl : false = _)) rfl <| AB rfl <| NL <| run_ret1 Tryz.func169 rfl (TP (v := .bool _) rfl) <| ⟨congrArg Value.bool ?_, hst.pure⟩
   unfold hexB
   first | (rw [decide_eq_decide]; omega) | exact (decide_eq_false (by omega)).symm | exact (decide_eq_true (by omega)).symm
 refine OM (t := 16) rfl (congrArg Value.bool (decide_eq_false g5)) rfl <| OM (t := 16) rfl (congrArg Value.bool (decide_eq_false g5)) rfl <| TK (t := 13) rfl (congrArg Value.bool (rfl : false = _)) <| Op1.pickF (u := .bool _) (congrArg Value.bool (decide_eq_false g5)) rfl <| CN <| Op1.pickF (u := .bool _) (congrArg Value.bool (rfl : false = _)) rfl <| AB rfl <| NL <| run_ret1 Tryz.func169 rfl (TP (v := .bool _) rfl) <| ⟨congrArg Value.bool ?_, hst.pure⟩
 unfold hexB
 first | (rw [decide_eq_decide]; omega) | exact (decide_eq_false (by omega)).symm | exact (decide_eq_true (by omega)).symm
theorem R7lx_Worth (c : UInt8) (hh : hexB c = true) (w : World) : Ret Tryz.prog 170 #[.int .u8 (c.toNat : Int)] w (fun v w' => v = .int .u64 (worF c : Int) ∧ St w NoM [] [] w') := by
 refine Ret.enter (args := [.int .u8 (c.toNat : Int)]) Tryz.func170 rfl rfl rfl ?_
 have hst := St.init w
 have hhb := (hex_bd hh).1
 refine SR <| CN <| Op1.assign (v := .int .u64 _) rfl <| NL <| SQ <| SR <| MC rfl <| CN <| Op1.call1 (v1 := .int .u8 _) ent167 rfl rfl <| Ret.det (R7lx_Digit _ _) hst fun w hst => NL <| run_cond_split rfl (fun g1 => ?_) (fun g1 => ?_)
 · skip
   have hdb := dig_bd g1
   refine SR <| MC rfl <| CN (Op1.subN rfl rfl rfl (wrap_u8 (by omega) (by omega)) ?_)
   first | refine CN (Op1.convN ty5 ty149 rfl (wrap_u64 (by omega) (by omega)) ?_) | refine CN (Op1.conv ty5 ty149 rfl ?_)
   refine CN <| Op1.assign (v := .int .u64 _) rfl <| NL <| run_ret1 Tryz.func170 rfl (TP (v := .int .u64 _) rfl) <| ⟨congrArg (Value.int .u64) ?_, hst.pure⟩
   unfold worF
   split
   · omega
   · split <;> omega
 have hdb : ¬ (48 ≤ c.toNat ∧ c.toNat ≤ 57) := of_decide_eq_false (p := 48 ≤ c.toNat ∧ c.toNat ≤ 57) g1
 refine run_skip <| SQ <| SR <| MC rfl <| CN <| Op1.geq rfl rfl <| NL <| run_cond_dec rfl (fun g2 => ?_) (fun g2 => ?_)
 · skip
   refine SR <| MC rfl <| CN (Op1.subN rfl rfl rfl (wrap_u8 (by omega) (by omega)) ?_)
   first | refine CN (Op1.convN ty5 ty149 rfl (wrap_u64 (by omega) (by omega)) ?_) | refine CN (Op1.conv ty5 ty149 rfl ?_)
   refine CN <| Op1.addN rfl rfl rfl (wrap_u64 (by omega) (by omega)) <| CN <| Op1.assign (v := .int .u64 _) rfl <| NL <| run_ret1 Tryz.func170 rfl (TP (v := .int .u64 _) rfl) <| ⟨congrArg (Value.int .u64) ?_, hst.pure⟩
   unfold worF
   split
   · omega
   · split <;> omega
 refine run_skip <| SR <| MC rfl <| CN (Op1.subN rfl rfl rfl (wrap_u8 (by omega) (by omega)) ?_)
 first | refine CN (Op1.convN ty5 ty149 rfl (wrap_u64 (by omega) (by omega)) ?_) | refine CN (Op1.conv ty5 ty149 rfl ?_)
 refine CN <| Op1.addN rfl rfl rfl (wrap_u64 (by omega) (by omega)) <| CN <| Op1.assign (v := .int .u64 _) rfl <| NL <| run_ret1 Tryz.func170 rfl (TP (v := .int .u64 _) rfl) <| ⟨congrArg (Value.int .u64) ?_, hst.pure⟩
 unfold worF
 split
 · omega
 · split <;> omega
theorem R7lx_kindOf (c : UInt8) (w : World) : Ret Tryz.prog 79 #[.int .u8 (c.toNat : Int)] w (fun v w' => v = .int .i64 (kindF c) ∧ St w NoM [] [] w') := by
 refine Ret.enter (args := [.int .u8 (c.toNat : Int)]) Tryz.func79 rfl rfl rfl ?_
 have hst := St.init w
 refine SR <| AI rfl <| NL <| SQ <| run_block <| SQ <| SR <| MC rfl <| CN <| Op1.eql rfl rfl <| AB rfl <| NL <| run_cond_dec rfl (fun g1 => ?_) (fun g1 => ?_)
 · skip
   refine run_skip <| run_cond_true (congrArg Value.bool (decide_eq_true g1)) <| SR <| AI rfl <| NL <| run_ret1 Tryz.func79 rfl (TP (v := .int .i64 _) rfl) <| ⟨congrArg (Value.int .i64) ?_, hst.pure⟩
   first | exact (kind1 (by omega)).symm | exact (kind2 (by omega) (by omega)).symm | exact (kind3 (by omega)).symm | exact (kind0 (by omega) (by omega) (by omega)).symm
 refine SR <| MC rfl <| CN <| Op1.eql rfl rfl <| AB rfl <| NL <| run_cond_dec rfl (fun g2 => ?_) (fun g2 => ?_)
 · skip
   refine run_skip <| run_cond_true (congrArg Value.bool (decide_eq_true g2)) <| SR <| AI rfl <| NL <| run_ret1 Tryz.func79 rfl (TP (v := .int .i64 _) rfl) <| ⟨congrArg (Value.int .i64) ?_, hst.pure⟩
   first | exact (kind1 (by omega)).symm | exact (kind2 (by omega) (by omega)).symm | exact (kind3 (by omega)).symm | exact (kind0 (by omega) (by omega) (by omega)).symm
 refine RG <| MC rfl <| CN <| Op1.eql rfl rfl <| AB rfl <| NL <| run_cond_dec rfl (fun g3 => ?_) (fun g3 => ?_)
 · skip
   refine SR <| AI rfl <| NL <| run_ret1 Tryz.func79 rfl (TP (v := .int .i64 _) rfl) <| ⟨congrArg (Value.int .i64) ?_, hst.pure⟩
   first | exact (kind1 (by omega)).symm | exact (kind2 (by omega) (by omega)).symm | exact (kind3 (by omega)).symm | exact (kind0 (by omega) (by omega) (by omega)).symm
 refine SQ <| SR <| MC rfl <| CN <| Op1.geq rfl rfl <| MB rfl <| RunL.splitD (d := 13) rfl (fun g4 => ?_) (fun g4 => ?_)
 · skip
   refine TK (t := 13) rfl (congrArg Value.bool (decide_eq_true g4)) <| Op1.move (v := .int .u8 _) rfl <| TK (t := 13) rfl (congrArg Value.bool (decide_eq_true g4)) <| Op1.leq rfl rfl <| CN <| Op1.pickT (u := .bool _) (congrArg Value.bool (decide_eq_true g4)) rfl <| AB rfl <| NL <| run_cond_dec rfl (fun g5 => ?_) (fun g5 => ?_)
   · skip
     refine run_skip <| run_cond_true (congrArg Value.bool (decide_eq_true g5)) <| SR <| AI rfl <| NL <| run_ret1 Tryz.func79 rfl (TP (v := .int .i64 _) rfl) <| ⟨congrArg (Value.int .i64) ?_, hst.pure⟩
     first | exact (kind1 (by omega)).symm | exact (kind2 (by omega) (by omega)).symm | exact (kind3 (by omega)).symm | exact (kind0 (by omega) (by omega) (by omega)).symm
   refine SR <| MC rfl <| CN <| Op1.geq rfl rfl <| MB rfl <| RunL.splitD (d := 19) rfl (fun g6 => ?_) (fun g6 => ?_)
   · skip
     refine TK (t := 19) rfl (congrArg Value.bool (decide_eq_true g6)) <| Op1.move (v := .int .u8 _) rfl <| TK (t := 19) rfl (congrArg Value.bool (decide_eq_true g6)) <| Op1.leq rfl rfl <| CN <| Op1.pickT (u := .bool _) (congrArg Value.bool (decide_eq_true g6)) rfl <| AB rfl <| NL <| Run.forget [(0, .int .u8 _), (10, .bool _)] ⟨rfl, rfl, trivial⟩ fun f => run_cond_dec rfl (fun g7 => ?_) (fun g7 => ?_)
     · skip
       refine run_skip <| run_cond_true (congrArg Value.bool (decide_eq_true g7)) <| SR <| AI rfl <| NL <| run_ret1 Tryz.func79 rfl (TP (v := .int .i64 _) rfl) <| ⟨congrArg (Value.int .i64) ?_, hst.pure⟩
       first | exact (kind1 (by omega)).symm | exact (kind2 (by omega) (by omega)).symm | exact (kind3 (by omega)).symm | exact (kind0 (by omega) (by omega) (by omega)).symm
     refine RG <| MC rfl <| CN <| Op1.eql rfl rfl <| AB rfl <| NL <| run_cond_dec rfl (fun g8 => ?_) (fun g8 => ?_)
     · skip
       refine SR <| AI rfl <| NL <| run_ret1 Tryz.func79 rfl (TP (v := .int .i64 _) rfl) <| ⟨congrArg (Value.int .i64) ?_, hst.pure⟩
       first | exact (kind1 (by omega)).symm | exact (kind2 (by omega) (by omega)).symm | exact (kind3 (by omega)).symm | exact (kind0 (by omega) (by omega) (by omega)).symm
     refine SR <| MC rfl <| CN <| Op1.geq rfl rfl <| MB rfl <| RunL.splitD (d := 28) rfl (fun g9 => ?_) (fun g9 => ?_)
     · skip
       refine TK (t := 28) rfl (congrArg Value.bool (decide_eq_true g9)) <| Op1.move (v := .int .u8 _) rfl <| TK (t := 28) rfl (congrArg Value.bool (decide_eq_true g9)) <| Op1.leq rfl rfl <| CN <| Op1.pickT (u := .bool _) (congrArg Value.bool (decide_eq_true g9)) rfl <| AB rfl <| NL <| run_cond_dec rfl (fun g10 => ?_) (fun g10 => ?_)
       · skip
         refine SR <| AI rfl <| NL <| run_ret1 Tryz.func79 rfl (TP (v := .int .i64 _) rfl) <| ⟨congrArg (Value.int .i64) ?_, hst.pure⟩
         first | exact (kind1 (by omega)).symm | exact (kind2 (by omega) (by omega)).symm | exact (kind3 (by omega)).symm | exact (kind0 (by omega) (by omega) (by omega)).symm
       refine run_skip <| run_inBlock <| SR <| AI rfl <| NL <| run_ret1 Tryz.func79 rfl (TP (v := .int .i64 _) rfl) <| ⟨congrArg (Value.int .i64) ?_, hst.pure⟩
       first | exact (kind1 (by omega)).symm | exact (kind2 (by omega) (by omega)).symm | exact (kind3 (by omega)).symm | exact (kind0 (by omega) (by omega) (by omega)).symm
     refine OM (t := 28) rfl (congrArg Value.bool (decide_eq_false g9)) rfl <| OM (t := 28) rfl (congrArg Value.bool (decide_eq_false g9)) rfl <| CN <| Op1.pickF (u := .bool _) (congrArg Value.bool (decide_eq_false g9)) rfl <| AB rfl <| NL <| run_cond_false (congrArg Value.bool (rfl : false = _)) <| run_skip <| run_inBlock <| SR <| AI rfl <| NL <| run_ret1 Tryz.func79 rfl (TP (v := .int .i64 _) rfl) <| ⟨congrArg (Value.int .i64) ?_, hst.pure⟩
     first | exact (kind1 (by omega)).symm | exact (kind2 (by omega) (by omega)).symm | exact (kind3 (by omega)).symm | exact (kind0 (by omega) (by omega) (by omega)).symm
   refine OM (t := 19) rfl (congrArg Value.bool (decide_eq_false g6)) rfl <| OM (t := 19) rfl (congrArg Value.bool (decide_eq_false g6)) rfl <| CN <| Op1.pickF (u := .bool _) (congrArg Value.bool (decide_eq_false g6)) rfl <| AB rfl <| NL <| Run.forget [(0, .int .u8 _), (10, .bool _)] ⟨rfl, rfl, trivial⟩ fun f => run_cond_false (congrArg Value.bool (rfl : false = _)) <| RG <| MC rfl <| CN <| Op1.eql rfl rfl <| AB rfl <| NL <| run_cond_dec rfl (fun g11 => ?_) (fun g11 => ?_)
   · skip
     refine SR <| AI rfl <| NL <| run_ret1 Tryz.func79 rfl (TP (v := .int .i64 _) rfl) <| ⟨congrArg (Value.int .i64) ?_, hst.pure⟩
     first | exact (kind1 (by omega)).symm | exact (kind2 (by omega) (by omega)).symm | exact (kind3 (by omega)).symm | exact (kind0 (by omega) (by omega) (by omega)).symm
   refine SR <| MC rfl <| CN <| Op1.geq rfl rfl <| MB rfl <| RunL.splitD (d := 28) rfl (fun g12 => ?_) (fun g12 => ?_)
   · skip
     refine TK (t := 28) rfl (congrArg Value.bool (decide_eq_true g12)) <| Op1.move (v := .int .u8 _) rfl <| TK (t := 28) rfl (congrArg Value.bool (decide_eq_true g12)) <| Op1.leq rfl rfl <| CN <| Op1.pickT (u := .bool _) (congrArg Value.bool (decide_eq_true g12)) rfl <| AB rfl <| NL <| run_cond_dec rfl (fun g13 => ?_) (fun g13 => ?_)
     · skip
       refine SR <| AI rfl <| NL <| run_ret1 Tryz.func79 rfl (TP (v := .int .i64 _) rfl) <| ⟨congrArg (Value.int .i64) ?_, hst.pure⟩
       first | exact (kind1 (by omega)).symm | exact (kind2 (by omega) (by omega)).symm | exact (kind3 (by omega)).symm | exact (kind0 (by omega) (by omega) (by omega)).symm
     refine run_skip <| run_inBlock <| SR <| AI rfl <| NL <| run_ret1 Tryz.func79 rfl (TP (v := .int .i64 _) rfl) <| ⟨congrArg (Value.int .i64) ?_, hst.pure⟩
     first | exact (kind1 (by omega)).symm | exact (kind2 (by omega) (by omega)).symm | exact (kind3 (by omega)).symm | exact (kind0 (by omega) (by omega) (by omega)).symm
   refine OM (t := 28) rfl (congrArg Value.bool (decide_eq_false g12)) rfl <| OM (t := 28) rfl (congrArg Value.bool (decide_eq_false g12)) rfl <| CN <| Op1.pickF (u := .bool _) (congrArg Value.bool (decide_eq_false g12)) rfl <| AB rfl <| NL <| run_cond_false (congrArg Value.bool (rfl : false = _)) <| run_skip <| run_inBlock <| SR <| AI rfl <| NL <| run_ret1 Tryz.func79 rfl (TP (v := .int .i64 _) rfl) <| ⟨congrArg (Value.int .i64) ?_, hst.pure⟩
   first | exact (kind1 (by omega)).symm | exact (kind2 (by omega) (by omega)).symm | exact (kind3 (by omega)).symm | exact (kind0 (by omega) (by omega) (by omega)).symm
 refine OM (t := 13) rfl (congrArg Value.bool (decide_eq_false g4)) rfl <| OM (t := 13) rfl (congrArg Value.bool (decide_eq_false g4)) rfl <| CN <| Op1.pickF (u := .bool _) (congrArg Value.bool (decide_eq_false g4)) rfl <| AB rfl <| NL <| run_cond_false (congrArg Value.bool (rfl : false = _)) <| SR <| MC rfl <| CN <| Op1.geq rfl rfl <| MB rfl <| RunL.splitD (d := 19) rfl (fun g14 => ?_) (fun g14 => ?_)
 · skip
   refine TK (t := 19) rfl (congrArg Value.bool (decide_eq_true g14)) <| Op1.move (v := .int .u8 _) rfl <| TK (t := 19) rfl (congrArg Value.bool (decide_eq_true g14)) <| Op1.leq rfl rfl <| CN <| Op1.pickT (u := .bool _) (congrArg Value.bool (decide_eq_true g14)) rfl <| AB rfl <| NL <| Run.forget [(0, .int .u8 _), (10, .bool _)] ⟨rfl, rfl, trivial⟩ fun f => run_cond_dec rfl (fun g15 => ?_) (fun g15 => ?_)
   · skip
     refine run_skip <| run_cond_true (congrArg Value.bool (decide_eq_true g15)) <| SR <| AI rfl <| NL <| run_ret1 Tryz.func79 rfl (TP (v := .int .i64 _) rfl) <| ⟨congrArg (Value.int .i64) ?_, hst.pure⟩
     first | exact (kind1 (by omega)).symm | exact (kind2 (by omega) (by omega)).symm | exact (kind3 (by omega)).symm | exact (kind0 (by omega) (by omega) (by omega)).symm
   refine RG <| MC rfl <| CN <| Op1.eql rfl rfl <| AB rfl <| NL <| run_cond_dec rfl (fun g16 => ?_) (fun g16 => ?_)
   · skip
     refine SR <| AI rfl <| NL <| run_ret1 Tryz.func79 rfl (TP (v := .int .i64 _) rfl) <| ⟨congrArg (Value.int .i64) ?_, hst.pure⟩
     first | exact (kind1 (by omega)).symm | exact (kind2 (by omega) (by omega)).symm | exact (kind3 (by omega)).symm | exact (kind0 (by omega) (by omega) (by omega)).symm
   refine SR <| MC rfl <| CN <| Op1.geq rfl rfl <| MB rfl <| RunL.splitD (d := 28) rfl (fun g17 => ?_) (fun g17 => ?_)
   · skip
     refine TK (t := 28) rfl (congrArg Value.bool (decide_eq_true g17)) <| Op1.move (v := .int .u8 _) rfl <| TK (t := 28) rfl (congrArg Value.bool (decide_eq_true g17)) <| Op1.leq rfl rfl <| CN <| Op1.pickT (u := .bool _) (congrArg Value.bool (decide_eq_true g17)) rfl <| AB rfl <| NL <| run_cond_dec rfl (fun g18 => ?_) (fun g18 => ?_)
     · skip
       refine SR <| AI rfl <| NL <| run_ret1 Tryz.func79 rfl (TP (v := .int .i64 _) rfl) <| ⟨congrArg (Value.int .i64) ?_, hst.pure⟩
       first | exact (kind1 (by omega)).symm | exact (kind2 (by omega) (by omega)).symm | exact (kind3 (by omega)).symm | exact (kind0 (by omega) (by omega) (by omega)).symm
     refine run_skip <| run_inBlock <| SR <| AI rfl <| NL <| run_ret1 Tryz.func79 rfl (TP (v := .int .i64 _) rfl) <| ⟨congrArg (Value.int .i64) ?_, hst.pure⟩
     first | exact (kind1 (by omega)).symm | exact (kind2 (by omega) (by omega)).symm | exact (kind3 (by omega)).symm | exact (kind0 (by omega) (by omega) (by omega)).symm
   refine OM (t := 28) rfl (congrArg Value.bool (decide_eq_false g17)) rfl <| OM (t := 28) rfl (congrArg Value.bool (decide_eq_false g17)) rfl <| CN <| Op1.pickF (u := .bool _) (congrArg Value.bool (decide_eq_false g17)) rfl <| AB rfl <| NL <| run_cond_false (congrArg Value.bool (rfl : false = _)) <| run_skip <| run_inBlock <| SR <| AI rfl <| NL <| run_ret1 Tryz.func79 rfl (TP (v := .int .i64 _) rfl) <| ⟨congrArg (Value.int .i64) ?_, hst.pure⟩
   first | exact (kind1 (by omega)).symm | exact (kind2 (by omega) (by omega)).symm | exact (kind3 (by omega)).symm | exact (kind0 (by omega) (by omega) (by omega)).symm
 refine OM (t := 19) rfl (congrArg Value.bool (decide_eq_false g14)) rfl <| OM (t := 19) rfl (congrArg Value.bool (decide_eq_false g14)) rfl <| CN <| Op1.pickF (u := .bool _) (congrArg Value.bool (decide_eq_false g14)) rfl <| AB rfl <| NL <| Run.forget [(0, .int .u8 _), (10, .bool _)] ⟨rfl, rfl, trivial⟩ fun f => run_cond_false (congrArg Value.bool (rfl : false = _)) <| RG <| MC rfl <| CN <| Op1.eql rfl rfl <| AB rfl <| NL <| run_cond_dec rfl (fun g19 => ?_) (fun g19 => ?_)
 · skip
   refine SR <| AI rfl <| NL <| run_ret1 Tryz.func79 rfl (TP (v := .int .i64 _) rfl) <| ⟨congrArg (Value.int .i64) ?_, hst.pure⟩
   first | exact (kind1 (by omega)).symm | exact (kind2 (by omega) (by omega)).symm | exact (kind3 (by omega)).symm | exact (kind0 (by omega) (by omega) (by omega)).symm
 refine SR <| MC rfl <| CN <| Op1.geq rfl rfl <| MB rfl <| RunL.splitD (d := 28) rfl (fun g20 => ?_) (fun g20 => ?_)
 · skip
   refine TK (t := 28) rfl (congrArg Value.bool (decide_eq_true g20)) <| Op1.move (v := .int .u8 _) rfl <| TK (t := 28) rfl (congrArg Value.bool (decide_eq_true g20)) <| Op1.leq rfl rfl <| CN <| Op1.pickT (u := .bool _) (congrArg Value.bool (decide_eq_true g20)) rfl <| AB rfl <| NL <| run_cond_dec rfl (fun g21 => ?_) (fun g21 => ?_)
   · skip
     refine SR <| AI rfl <| NL <| run_ret1 Tryz.func79 rfl (TP (v := .int .i64 _) rfl) <| ⟨congrArg (Value.int .i64) ?_, hst.pure⟩
     first | exact (kind1 (by omega)).symm | exact (kind2 (by omega) (by omega)).symm | exact (kind3 (by omega)).symm | exact (kind0 (by omega) (by omega) (by omega)).symm
   refine run_skip <| run_inBlock <| SR <| AI rfl <| NL <| run_ret1 Tryz.func79 rfl (TP (v := .int .i64 _) rfl) <| ⟨congrArg (Value.int .i64) ?_, hst.pure⟩
   first | exact (kind1 (by omega)).symm | exact (kind2 (by omega) (by omega)).symm | exact (kind3 (by omega)).symm | exact (kind0 (by omega) (by omega) (by omega)).symm
 refine OM (t := 28) rfl (congrArg Value.bool (decide_eq_false g20)) rfl <| OM (t := 28) rfl (congrArg Value.bool (decide_eq_false g20)) rfl <| CN <| Op1.pickF (u := .bool _) (congrArg Value.bool (decide_eq_false g20)) rfl <| AB rfl <| NL <| run_cond_false (congrArg Value.bool (rfl : false = _)) <| run_skip <| run_inBlock <| SR <| AI rfl <| NL <| run_ret1 Tryz.func79 rfl (TP (v := .int .i64 _) rfl) <| ⟨congrArg (Value.int .i64) ?_, hst.pure⟩
 first | exact (kind1 (by omega)).symm | exact (kind2 (by omega) (by omega)).symm | exact (kind3 (by omega)).symm | exact (kind0 (by omega) (by omega) (by omega)).symm
end Go.SK
namespace Go.SK
open Go Go.Proofs
theorem ty9 : TyF Tryz.prog 9 .string 1 16 [str []] := TyF.of (by kernel_rfl) (by kernel_rfl)
theorem ent79 : Enters Tryz.prog 79 := ⟨Tryz.f79, _, Tryz.func79, by kernel_rfl, rfl⟩
theorem ent162 : Enters Tryz.prog 162 := ⟨Tryz.f162, _, Tryz.func162, by kernel_rfl, rfl⟩
end Go.SK
namespace Go.SK
open Go Go.Proofs
open Go.RowKit
theorem R7lx_run (s : Tx) (w : World) (hl : s.length ≤ 140737488355328) : Ret Tryz.prog 85 #[str s] w (fun v w' => v = str (runF s) ∧ St w NoM [] [] w') := by
 refine Ret.enter (args := [str s]) Tryz.func85 rfl rfl rfl ?_
 have hst := St.init w
 refine SR <| AS rfl <| NSR <| AI rfl <| NL <| SQ <| run_block <| run_loop <| Run.indW [(0, str _)] ⟨rfl, trivial⟩ (fun (qq : Nat) => [(3, .int .i64 (qq : Int))]) (fun (qq : Nat) => []) (fun (qq : Nat) => qq ≤ s.length ∧ (runF s).length = qq + (runF (s.drop qq)).length) (fun (qq : Nat) => s.length - qq) (0) hst ⟨Nat.zero_le _, (Nat.zero_add _).symm⟩ ⟨rfl, trivial⟩ ?_
 intro i f w hst hJ ih1
 replace hst : St _ _ ([] ++ []) _ _ := hst
 replace hJ : i ≤ s.length ∧ (runF s).length = i + (runF (s.drop i)).length := hJ
 refine Run.slots (sl := [(3, .int .i64 (i : Int))]) ⟨rfl, trivial⟩ ?_
 have hidx : kindF (s.getD ((i : Int).toNat) 0) = kindF (s.getD i 0) := rfl
 refine SQ <| SR <| MI rfl <| MS rfl <| CN <| Op1.lenS (rest := []) ty9 rfl <| CN <| Op1.lss rfl rfl <| MB rfl <| RunL.splitD (d := 8) rfl (fun g2 => ?_) (fun g2 => ?_)
 · skip
   refine TK (t := 8) rfl (congrArg Value.bool (decide_eq_true g2)) <| Op1.move (v := str _) rfl <| TK (t := 8) rfl (congrArg Value.bool (decide_eq_true g2)) <| Op1.move (v := .int .i64 _) rfl <| TK (t := 8) rfl (congrArg Value.bool (decide_eq_true g2)) <| Op1.indexS ty9 rfl rfl (by omega) (by omega) <| TK (t := 8) rfl (congrArg Value.bool (decide_eq_true g2)) (Op1.call1 (v1 := .int .u8 _) ent79 rfl rfl ((R7lx_kindOf _ _).mono fun v w hp => ?_))
   obtain ⟨rfl, hp⟩ := hp
   replace hst := hst.keepc hp
   clear hp
   refine TK (t := 8) rfl (congrArg Value.bool (decide_eq_true g2)) <| Op1.geq rfl rfl <| CN <| Op1.pickT (u := .bool _) (congrArg Value.bool (decide_eq_true g2)) rfl <| NL <| run_cond_dec rfl (fun g3 => ?_) (fun g3 => ?_)
   · skip
     refine run_skip <| run_block <| RG <| MI rfl <| CN <| Op1.addN rfl rfl rfl (wrap_i64 (by omega) (by omega)) <| AI rfl <| NL <| run_inBlock <| run_inLoop ?_
     have hs1 := run_step (s := s) (i := i) (by omega) ((kind_run (s.getD i 0)).1 (by omega))
     exact ih1 (i + 1) _ w (by omega) hst (⟨by omega, by omega⟩) ⟨rfl, trivial⟩ ⟨(congrArg (Value.int .i64) (by omega)), trivial⟩
   refine run_exit (id := 0) rfl <| SR <| MS rfl <| MI rfl <| CN <| Op1.sliceTo ty9 rfl rfl (by omega) (by omega) <| AS rfl <| NL <| run_ret1 Tryz.func85 rfl (TP (v := str _) rfl) ?_
   have hz : (runF (s.drop i)).length = 0 := run_stop (by omega) (fun hr => by have := (kind_run (s.getD i 0)).2 hr; omega)
   refine ⟨congrArg str ?_, hst.pure⟩
   exact runF_take s (by omega)
 refine OM (t := 8) rfl (congrArg Value.bool (decide_eq_false g2)) rfl <| OM (t := 8) rfl (congrArg Value.bool (decide_eq_false g2)) rfl <| OM (t := 8) rfl (congrArg Value.bool (decide_eq_false g2)) rfl <| OM (t := 8) rfl (congrArg Value.bool (decide_eq_false g2)) rfl <| OM (t := 8) rfl (congrArg Value.bool (decide_eq_false g2)) rfl <| CN <| Op1.pickF (u := .bool _) (congrArg Value.bool (decide_eq_false g2)) rfl <| NL <| run_cond_false (congrArg Value.bool (rfl : false = _)) <| run_exit (id := 0) rfl <| SR <| MS rfl <| MI rfl <| CN <| Op1.sliceTo ty9 rfl rfl (by omega) (by omega) <| AS rfl ?_
 refine NL <| run_ret1 Tryz.func85 rfl (TP (v := str _) rfl) ?_
 have hz : (runF (s.drop i)).length = 0 := run_end (by omega)
 refine ⟨congrArg str ?_, hst.pure⟩
 exact runF_take s (by omega)
theorem R7lx_Run (s : Tx) (x : Int) (a : Nat) (hx : x = a) (ha : a ≤ s.length) (w : World) (hl : s.length ≤ 140737488355328) : Ret Tryz.prog 163 #[str s, .int .i64 x] w (fun v w' => v = str (runF (s.drop a)) ∧ St w NoM [] [] w') := by
 refine Ret.enter (args := [str s, .int .i64 x]) Tryz.func163 rfl rfl rfl ?_
 have hst := St.init w
 subst hx
 refine SR <| AS rfl <| NSR <| MI rfl <| AI rfl <| NL <| SQ <| run_block <| run_loop <| Run.indW [(0, str _), (1, .int .i64 _)] ⟨rfl, rfl, trivial⟩ (fun (qq : Nat) => [(5, .int .i64 (qq : Int))]) (fun (qq : Nat) => []) (fun (qq : Nat) => a ≤ qq ∧ qq ≤ s.length ∧ (runF (s.drop a)).length + a = qq + (runF (s.drop qq)).length) (fun (qq : Nat) => s.length - qq) (a) hst ⟨Nat.le_refl _, ha, Nat.add_comm _ _⟩ ⟨rfl, trivial⟩ ?_
 intro i f w hst hJ ih1
 replace hst : St _ _ ([] ++ []) _ _ := hst
 replace hJ : a ≤ i ∧ i ≤ s.length ∧ (runF (s.drop a)).length + a = i + (runF (s.drop i)).length := hJ
 refine Run.slots (sl := [(5, .int .i64 (i : Int))]) ⟨rfl, trivial⟩ ?_
 have hidx : (s.getD ((i : Int).toNat) 0).toNat = (s.getD i 0).toNat := rfl
 refine SQ <| SR <| MI rfl <| MS rfl <| CN <| Op1.lenS (rest := []) ty9 rfl <| CN <| Op1.lss rfl rfl <| MB rfl <| RunL.splitD (d := 11) rfl (fun g2 => ?_) (fun g2 => ?_)
 · skip
   refine TK (t := 11) rfl (congrArg Value.bool (decide_eq_true g2)) <| Op1.move (v := str _) rfl <| TK (t := 11) rfl (congrArg Value.bool (decide_eq_true g2)) <| Op1.move (v := .int .i64 _) rfl <| TK (t := 11) rfl (congrArg Value.bool (decide_eq_true g2)) <| Op1.indexS ty9 rfl rfl (by omega) (by omega) <| TK (t := 11) rfl (congrArg Value.bool (decide_eq_true g2)) (Op1.call1 (v1 := .int .u8 _) ent162 rfl rfl ((R7lx_Letter _ _).mono fun v w hp => ?_))
   obtain ⟨rfl, hp⟩ := hp
   replace hst := hst.keepc hp
   clear hp
   refine TK (t := 11) rfl (congrArg Value.bool (decide_eq_true g2)) <| Op1.move (v := .bool _) rfl <| RunL.split (d := 16) rfl (fun g3 => ?_) (fun g3 => ?_)
   · skip
     refine OM (t := 16) rfl (congrArg Value.bool g3) rfl <| OM (t := 16) rfl (congrArg Value.bool g3) rfl <| OM (t := 16) rfl (congrArg Value.bool g3) rfl <| OM (t := 16) rfl (congrArg Value.bool g3) rfl <| TK (t := 11) rfl (congrArg Value.bool (decide_eq_true g2)) <| Op1.pickT (u := .bool _) (congrArg Value.bool g3) rfl <| CN <| Op1.pickT (u := .bool _) (congrArg Value.bool (decide_eq_true g2)) rfl <| NL <| run_cond_true (congrArg Value.bool (rfl : true = _)) <| run_skip <| run_block <| RG <| MI rfl <| CN <| Op1.addN rfl rfl rfl (wrap_i64 (by omega) (by omega)) <| AI rfl <| NL ?_
     refine run_inBlock <| run_inLoop ?_
     have hs1 := run_step (s := s) (i := i) (by omega) (run_l g3)
     exact ih1 (i + 1) _ w (by omega) hst (⟨by omega, by omega, by omega⟩) ⟨rfl, rfl, trivial⟩ ⟨(congrArg (Value.int .i64) (by omega)), trivial⟩
   refine TK (t := 16) rfl (congrArg Value.bool g3) <| Op1.move (v := str _) rfl <| TK (t := 16) rfl (congrArg Value.bool g3) <| Op1.move (v := .int .i64 _) rfl <| TK (t := 16) rfl (congrArg Value.bool g3) <| Op1.indexS ty9 rfl rfl (by omega) (by omega) <| TK (t := 16) rfl (congrArg Value.bool g3) (Op1.call1 (v1 := .int .u8 _) ent167 rfl rfl ((R7lx_Digit _ _).mono fun v w hp => ?_))
   obtain ⟨rfl, hp⟩ := hp
   replace hst := hst.keepc hp
   clear hp
   refine TK (t := 11) rfl (congrArg Value.bool (decide_eq_true g2)) <| Op1.pickF (u := .bool _) (congrArg Value.bool g3) rfl <| CN <| Op1.pickT (u := .bool _) (congrArg Value.bool (decide_eq_true g2)) rfl <| NL <| run_cond_split rfl (fun g4 => ?_) (fun g4 => ?_)
   · skip
     refine run_skip <| run_block <| RG <| MI rfl <| CN <| Op1.addN rfl rfl rfl (wrap_i64 (by omega) (by omega)) <| AI rfl <| NL <| run_inBlock <| run_inLoop ?_
     have hs1 := run_step (s := s) (i := i) (by omega) (run_d g4)
     exact ih1 (i + 1) _ w (by omega) hst (⟨by omega, by omega, by omega⟩) ⟨rfl, rfl, trivial⟩ ⟨(congrArg (Value.int .i64) (by omega)), trivial⟩
   refine run_exit (id := 0) rfl <| SR <| MS rfl <| MI rfl <| MI rfl <| CN <| Op1.sliceMid ty9 rfl rfl rfl (by omega) (by omega) (by omega) <| AS rfl <| NL <| run_ret1 Tryz.func163 rfl (TP (v := str _) rfl) ?_
   have hz : (runF (s.drop i)).length = 0 := run_stop (by omega) (run_no g3 g4)
   refine ⟨congrArg str ?_, hst.pure⟩
   exact runF_take (s.drop a) (by omega)
 refine OM (t := 11) rfl (congrArg Value.bool (decide_eq_false g2)) rfl <| OM (t := 11) rfl (congrArg Value.bool (decide_eq_false g2)) rfl <| OM (t := 11) rfl (congrArg Value.bool (decide_eq_false g2)) rfl <| OM (t := 11) rfl (congrArg Value.bool (decide_eq_false g2)) rfl <| OM (t := 11) rfl (congrArg Value.bool (decide_eq_false g2)) rfl <| RunL.omitU (t := 16) rfl rfl <| RunL.omitU (t := 16) rfl rfl <| RunL.omitU (t := 16) rfl rfl <| RunL.omitU (t := 16) rfl rfl <| OM (t := 11) rfl (congrArg Value.bool (decide_eq_false g2)) rfl <| CN <| Op1.pickF (u := .bool _) (congrArg Value.bool (decide_eq_false g2)) rfl <| NL <| run_cond_false (congrArg Value.bool (rfl : false = _)) <| run_exit (id := 0) rfl <| SQ ?_
 refine RG <| MS rfl <| MI rfl <| MI rfl <| CN <| Op1.sliceMid ty9 rfl rfl rfl (by omega) (by omega) (by omega) <| AS rfl <| NL <| run_ret1 Tryz.func163 rfl (TP (v := str _) rfl) ?_
 have hz : (runF (s.drop i)).length = 0 := run_end (by omega)
 refine ⟨congrArg str ?_, hst.pure⟩
 exact runF_take (s.drop a) (by omega)
theorem R7lx_Plain (s : Tx) (w : World) (hl : s.length ≤ 140737488355328) : Ret Tryz.prog 120 #[str s] w (fun v w' => v = .tuple #[.int .u64 (plR s : Int), .bool (plainF s).isSome] ∧ St w NoM [] [] w') := by
 refine Ret.enter (args := [str s]) Tryz.func120 rfl rfl rfl ?_
 have hst := St.init w
 have hidx0 : (s.getD ((0 : Int).toNat) 0).toNat = (s.getD 0 0).toNat := rfl
 refine SR <| CN <| Op1.assign (v := .int .u64 _) rfl <| AB rfl <| NL <| SQ <| SR <| MS rfl <| CN <| Op1.lenS (rest := []) ty9 rfl <| CN <| Op1.eql rfl rfl <| MB rfl <| RunL.splitD (d := 9) rfl (fun g1 => ?_) (fun g1 => ?_)
 · skip
   refine OM (t := 9) rfl (congrArg Value.bool (decide_eq_true g1)) rfl <| OM (t := 9) rfl (congrArg Value.bool (decide_eq_true g1)) rfl <| OM (t := 9) rfl (congrArg Value.bool (decide_eq_true g1)) rfl <| CN <| Op1.pickT (u := .bool _) (congrArg Value.bool (decide_eq_true g1)) rfl <| MB rfl <| OM (t := 14) rfl (congrArg Value.bool (rfl : true = _)) rfl <| OM (t := 14) rfl (congrArg Value.bool (rfl : true = _)) rfl <| OM (t := 14) rfl (congrArg Value.bool (rfl : true = _)) rfl <| OM (t := 14) rfl (congrArg Value.bool (rfl : true = _)) rfl <| RunL.omitU (t := 18) rfl rfl <| RunL.omitU (t := 18) rfl rfl <| RunL.omitU (t := 18) rfl rfl <| OM (t := 14) rfl (congrArg Value.bool (rfl : true = _)) rfl <| CN <| Op1.pickT (u := .bool _) (congrArg Value.bool (rfl : true = _)) rfl <| NL ?_
   have hbad : badP s := by unfold badP; omega
   refine run_cond_true (congrArg Value.bool (rfl : true = _)) <| SR <| CN <| Op1.assign (v := .int .u64 _) rfl <| AB rfl <| NL <| run_ret2 Tryz.func120 rfl (TP (v := .int .u64 _) rfl) (TP (v := .bool _) rfl) ?_
   rw [(plR_bad hbad).1, (plR_bad hbad).2]
   exact ⟨rfl, hst.pure⟩
 refine TK (t := 9) rfl (congrArg Value.bool (decide_eq_false g1)) <| Op1.move (v := str _) rfl <| TK (t := 9) rfl (congrArg Value.bool (decide_eq_false g1)) <| Op1.lenS (rest := []) ty9 rfl <| TK (t := 9) rfl (congrArg Value.bool (decide_eq_false g1)) <| Op1.gtr rfl rfl <| CN <| Op1.pickF (u := .bool _) (congrArg Value.bool (decide_eq_false g1)) rfl <| MB rfl <| RunL.splitD (d := 14) rfl (fun g2 => ?_) (fun g2 => ?_)
 · skip
   refine OM (t := 14) rfl (congrArg Value.bool (decide_eq_true g2)) rfl <| OM (t := 14) rfl (congrArg Value.bool (decide_eq_true g2)) rfl <| OM (t := 14) rfl (congrArg Value.bool (decide_eq_true g2)) rfl <| OM (t := 14) rfl (congrArg Value.bool (decide_eq_true g2)) rfl <| RunL.omitU (t := 18) rfl rfl <| RunL.omitU (t := 18) rfl rfl <| RunL.omitU (t := 18) rfl rfl <| OM (t := 14) rfl (congrArg Value.bool (decide_eq_true g2)) rfl <| CN <| Op1.pickT (u := .bool _) (congrArg Value.bool (decide_eq_true g2)) rfl <| NL ?_
   have hbad : badP s := by unfold badP; omega
   refine run_cond_true (congrArg Value.bool (rfl : true = _)) <| SR <| CN <| Op1.assign (v := .int .u64 _) rfl <| AB rfl <| NL <| run_ret2 Tryz.func120 rfl (TP (v := .int .u64 _) rfl) (TP (v := .bool _) rfl) ?_
   rw [(plR_bad hbad).1, (plR_bad hbad).2]
   exact ⟨rfl, hst.pure⟩
 refine TK (t := 14) rfl (congrArg Value.bool (decide_eq_false g2)) <| Op1.move (v := str _) rfl <| TK (t := 14) rfl (congrArg Value.bool (decide_eq_false g2)) <| Op1.lenS (rest := []) ty9 rfl <| TK (t := 14) rfl (congrArg Value.bool (decide_eq_false g2)) <| Op1.gtr rfl rfl <| TK (t := 14) rfl (congrArg Value.bool (decide_eq_false g2)) <| Op1.move (v := .bool _) rfl <| RunL.splitD (d := 18) rfl (fun g3 => ?_) (fun g3 => ?_)
 · skip
   refine TK (t := 18) rfl (congrArg Value.bool (decide_eq_true g3)) <| Op1.move (v := str _) rfl <| TK (t := 18) rfl (congrArg Value.bool (decide_eq_true g3)) <| Op1.indexS ty9 rfl rfl (by omega) (by omega) <| TK (t := 18) rfl (congrArg Value.bool (decide_eq_true g3)) <| Op1.eql rfl rfl <| TK (t := 14) rfl (congrArg Value.bool (decide_eq_false g2)) <| Op1.pickT (u := .bool _) (congrArg Value.bool (decide_eq_true g3)) rfl <| CN <| Op1.pickF (u := .bool _) (congrArg Value.bool (decide_eq_false g2)) rfl <| NL <| Run.forget [(0, str _), (23, .bool _)] ⟨rfl, rfl, trivial⟩ fun f => run_cond_dec rfl (fun g4 => ?_) (fun g4 => ?_)
   · skip
     have hbad : badP s := by unfold badP; omega
     refine SR <| CN <| Op1.assign (v := .int .u64 _) rfl <| AB rfl <| NL <| run_ret2 Tryz.func120 rfl (TP (v := .int .u64 _) rfl) (TP (v := .bool _) rfl) ?_
     rw [(plR_bad hbad).1, (plR_bad hbad).2]
     exact ⟨rfl, hst.pure⟩
   have hgood : ¬ badP s := by unfold badP; omega
   refine run_skip <| SR <| CN <| Op1.assign (v := .int .u64 _) rfl <| NL <| SQ <| SR <| AI rfl <| NL <| run_block <| run_loop <| Run.indW [(0, str _)] ⟨rfl, trivial⟩ (fun (qq : Nat × Nat) => [(4, .int .u64 (qq.2 : Int)), (5, .int .i64 (qq.1 : Int))]) (fun (qq : Nat × Nat) => []) (fun (qq : Nat × Nat) => qq.1 ≤ s.length ∧ qq.2 < 10 ^ qq.1 ∧ digsF s 0 = digsF (s.drop qq.1) qq.2) (fun (qq : Nat × Nat) => s.length - qq.1) ((0, 0)) hst ⟨Nat.zero_le _, by decide, rfl⟩ ⟨rfl, rfl, trivial⟩ ?_
   intro ⟨i, n⟩ f w hst hJ ih5
   replace hst : St _ _ ([] ++ []) _ _ := hst
   replace hJ : i ≤ s.length ∧ n < 10 ^ i ∧ digsF s 0 = digsF (s.drop i) n := hJ
   refine Run.slots (sl := [(4, .int .u64 (n : Int)), (5, .int .i64 (i : Int))]) ⟨rfl, rfl, trivial⟩ ?_
   have hidx : (s.getD ((i : Int).toNat) 0).toNat = (s.getD i 0).toNat := rfl
   have hlen : s.length ≤ 10 := by unfold badP at hgood; omega
   refine SQ <| SR <| MI rfl <| MS rfl <| CN <| Op1.lenS (rest := []) ty9 rfl <| CN <| Op1.lss rfl rfl <| NL <| run_cond_dec rfl (fun g6 => ?_) (fun g6 => ?_)
   · skip
     have hp10 := pow10_le (i := i) (by omega)
     refine run_skip <| SQ <| run_block <| SQ <| SR <| MS rfl <| MI rfl <| CN <| Op1.indexS ty9 rfl rfl (by omega) (by omega) <| CN <| Op1.call1 (v1 := .int .u8 _) ent167 rfl rfl <| Ret.det (R7lx_Digit _ _) hst fun w hst => CN <| Op1.not rfl <| NL <| run_cond_split rfl (fun g7 => ?_) (fun g7 => ?_)
     · skip
       have hnd : ¬ digB (s.getD i 0) = true := not_t g7
       refine SR <| CN <| Op1.assign (v := .int .u64 _) rfl <| AB rfl <| NL <| run_ret2 Tryz.func120 rfl (TP (v := .int .u64 _) rfl) (TP (v := .bool _) rfl) ?_
       have hno : digsF s 0 = none := hJ.2.2.trans (digs_stop (by omega) hnd)
       rw [(plR_none hgood hno).1, (plR_none hgood hno).2]
       exact ⟨rfl, hst.pure⟩
     have hyd : digB (s.getD i 0) = true := not_f g7
     have hdb := dig_bd hyd
     refine run_skip <| RG <| CN <| Op1.move (v := .int .u64 _) rfl <| CN <| Op1.mulN rfl rfl rfl (wrap_u64 (by omega) (by omega)) <| MS rfl <| MI rfl <| CN <| Op1.indexS ty9 rfl rfl (by omega) (by omega) <| CN (Op1.subN rfl rfl rfl (wrap_u8 (by omega) (by omega)) ?_)
     first | refine CN (Op1.convN ty5 ty149 rfl (wrap_u64 (by omega) (by omega)) ?_) | refine CN (Op1.conv ty5 ty149 rfl ?_)
     refine CN <| Op1.addN rfl rfl rfl (wrap_u64 (by omega) (by omega)) <| CN <| Op1.assign (v := .int .u64 _) rfl <| NL <| run_inBlock <| RG <| MI rfl <| CN <| Op1.addN rfl rfl rfl (wrap_i64 (by omega) (by omega)) <| AI rfl <| NL <| run_inLoop ?_
     exact ih5 ((i + 1, 10 * n + ((s.getD i 0).toNat - 48))) _ w (by (try dsimp only); omega) hst (⟨by (try dsimp only); omega, by (try dsimp only); exact pow10_step hJ.2.1 (by omega), by (try dsimp only); rw [hJ.2.2, digs_step (by omega) hyd]⟩) ⟨rfl, trivial⟩ ⟨(congrArg (Value.int .u64) (by (try dsimp only); omega)), (congrArg (Value.int .i64) (by (try dsimp only); omega)), trivial⟩
   refine run_exit (id := 0) rfl <| SR <| CN <| Op1.move (v := .int .u64 _) rfl <| CN <| Op1.move (v := .int .u64 _) rfl <| CN <| Op1.lss rfl rfl <| CN <| Op1.assign (v := .int .u64 _) rfl <| AB rfl <| NL <| run_ret2 Tryz.func120 rfl (TP (v := .int .u64 _) rfl) (TP (v := .bool _) rfl) ?_
   have hsm : digsF s 0 = some n := hJ.2.2.trans (digs_end (by omega))
   rw [(plR_some hgood hsm).1, (plR_some hgood hsm).2]
   refine ⟨congrArg (fun b => Value.tuple #[.int .u64 (n : Int), .bool b]) ?_, hst.pure⟩
   rw [decide_eq_decide]; omega
 refine OM (t := 18) rfl (congrArg Value.bool (decide_eq_false g3)) rfl <| OM (t := 18) rfl (congrArg Value.bool (decide_eq_false g3)) rfl <| OM (t := 18) rfl (congrArg Value.bool (decide_eq_false g3)) rfl <| TK (t := 14) rfl (congrArg Value.bool (decide_eq_false g2)) <| Op1.pickF (u := .bool _) (congrArg Value.bool (decide_eq_false g3)) rfl <| CN <| Op1.pickF (u := .bool _) (congrArg Value.bool (decide_eq_false g2)) rfl <| NL ?_
 have hgood : ¬ badP s := by unfold badP; omega
 refine run_cond_false (congrArg Value.bool (rfl : false = _)) <| run_skip <| SR <| CN <| Op1.assign (v := .int .u64 _) rfl <| NL <| SQ <| SR <| AI rfl <| NL <| run_block <| Run.forget [(0, str _), (4, .int .u64 _), (5, .int .i64 _)] ⟨rfl, rfl, rfl, trivial⟩ fun f => run_loop <| Run.indW [(0, str _)] ⟨rfl, trivial⟩ (fun (qq : Nat × Nat) => [(4, .int .u64 (qq.2 : Int)), (5, .int .i64 (qq.1 : Int))]) (fun (qq : Nat × Nat) => []) (fun (qq : Nat × Nat) => qq.1 ≤ s.length ∧ qq.2 < 10 ^ qq.1 ∧ digsF s 0 = digsF (s.drop qq.1) qq.2) (fun (qq : Nat × Nat) => s.length - qq.1) ((0, 0)) hst ⟨Nat.zero_le _, by decide, rfl⟩ ⟨rfl, rfl, trivial⟩ ?_
 intro ⟨i, n⟩ f w hst hJ ih8
 replace hst : St _ _ ([] ++ []) _ _ := hst
 replace hJ : i ≤ s.length ∧ n < 10 ^ i ∧ digsF s 0 = digsF (s.drop i) n := hJ
 refine Run.slots (sl := [(4, .int .u64 (n : Int)), (5, .int .i64 (i : Int))]) ⟨rfl, rfl, trivial⟩ ?_
 have hidx : (s.getD ((i : Int).toNat) 0).toNat = (s.getD i 0).toNat := rfl
 have hlen : s.length ≤ 10 := by unfold badP at hgood; omega
 refine SQ <| SR <| MI rfl <| MS rfl <| CN <| Op1.lenS (rest := []) ty9 rfl <| CN <| Op1.lss rfl rfl <| NL <| run_cond_dec rfl (fun g9 => ?_) (fun g9 => ?_)
 · skip
   have hp10 := pow10_le (i := i) (by omega)
   refine run_skip <| SQ <| run_block <| SQ <| SR <| MS rfl <| MI rfl <| CN <| Op1.indexS ty9 rfl rfl (by omega) (by omega) <| CN <| Op1.call1 (v1 := .int .u8 _) ent167 rfl rfl <| Ret.det (R7lx_Digit _ _) hst fun w hst => CN <| Op1.not rfl <| NL <| run_cond_split rfl (fun g10 => ?_) (fun g10 => ?_)
   · skip
     have hnd : ¬ digB (s.getD i 0) = true := not_t g10
     refine SR <| CN <| Op1.assign (v := .int .u64 _) rfl <| AB rfl <| NL <| run_ret2 Tryz.func120 rfl (TP (v := .int .u64 _) rfl) (TP (v := .bool _) rfl) ?_
     have hno : digsF s 0 = none := hJ.2.2.trans (digs_stop (by omega) hnd)
     rw [(plR_none hgood hno).1, (plR_none hgood hno).2]
     exact ⟨rfl, hst.pure⟩
   have hyd : digB (s.getD i 0) = true := not_f g10
   have hdb := dig_bd hyd
   refine run_skip <| RG <| CN <| Op1.move (v := .int .u64 _) rfl <| CN <| Op1.mulN rfl rfl rfl (wrap_u64 (by omega) (by omega)) <| MS rfl <| MI rfl <| CN <| Op1.indexS ty9 rfl rfl (by omega) (by omega) <| CN (Op1.subN rfl rfl rfl (wrap_u8 (by omega) (by omega)) ?_)
   first | refine CN (Op1.convN ty5 ty149 rfl (wrap_u64 (by omega) (by omega)) ?_) | refine CN (Op1.conv ty5 ty149 rfl ?_)
   refine CN <| Op1.addN rfl rfl rfl (wrap_u64 (by omega) (by omega)) <| CN <| Op1.assign (v := .int .u64 _) rfl <| NL <| run_inBlock <| RG <| MI rfl <| CN <| Op1.addN rfl rfl rfl (wrap_i64 (by omega) (by omega)) <| AI rfl <| NL <| run_inLoop ?_
   exact ih8 ((i + 1, 10 * n + ((s.getD i 0).toNat - 48))) _ w (by (try dsimp only); omega) hst (⟨by (try dsimp only); omega, by (try dsimp only); exact pow10_step hJ.2.1 (by omega), by (try dsimp only); rw [hJ.2.2, digs_step (by omega) hyd]⟩) ⟨rfl, trivial⟩ ⟨(congrArg (Value.int .u64) (by (try dsimp only); omega)), (congrArg (Value.int .i64) (by (try dsimp only); omega)), trivial⟩
 refine run_exit (id := 0) rfl <| SR <| CN <| Op1.move (v := .int .u64 _) rfl <| CN <| Op1.move (v := .int .u64 _) rfl <| CN <| Op1.lss rfl rfl <| CN <| Op1.assign (v := .int .u64 _) rfl <| AB rfl <| NL <| run_ret2 Tryz.func120 rfl (TP (v := .int .u64 _) rfl) (TP (v := .bool _) rfl) ?_
 have hsm : digsF s 0 = some n := hJ.2.2.trans (digs_end (by omega))
 rw [(plR_some hgood hsm).1, (plR_some hgood hsm).2]
 refine ⟨congrArg (fun b => Value.tuple #[.int .u64 (n : Int), .bool b]) ?_, hst.pure⟩
 rw [decide_eq_decide]; omega
end Go.SK
namespace Go.SK
open Go Go.Proofs
theorem ent120 : Enters Tryz.prog 120 := ⟨Tryz.f120, _, Tryz.func120, by kernel_rfl, rfl⟩
theorem ty22 : TyF Tryz.prog 22 (.int .u32) 1 4 [.int .u32 0] := TyF.of (by kernel_rfl) (by kernel_rfl)
theorem ent169 : Enters Tryz.prog 169 := ⟨Tryz.f169, _, Tryz.func169, by kernel_rfl, rfl⟩
theorem ent170 : Enters Tryz.prog 170 := ⟨Tryz.f170, _, Tryz.func170, by kernel_rfl, rfl⟩
theorem followsMixed : Tryz.prog.follows .mixedOrders = true := by kernel_rfl
end Go.SK
namespace Go.SK
open Go Go.Proofs
open Go.RowKit
theorem R7lx_Number (s : Tx) (w : World) (hl : s.length ≤ 140737488355328) : Ret Tryz.prog 122 #[str s] w (fun v w' => v = .tuple #[.int .u32 (numLx s).1, .int .i64 (numLx s).2] ∧ St w NoM [] [] w') := by
 refine Ret.enter (args := [str s]) Tryz.func122 rfl rfl rfl ?_
 have hst := St.init w
 have hidx0 : (s.getD ((0 : Int).toNat) 0).toNat = (s.getD 0 0).toNat := rfl
 have hidx1 : (s.getD ((1 : Int).toNat) 0).toNat = (s.getD 1 0).toNat := rfl
 refine SR <| AU rfl <| AI rfl <| NSR <| MS rfl <| CN <| Op1.call1 (v1 := str _) ent120 rfl rfl <| Ret.det (R7lx_Plain _ _ (by first | omega | (simp only [List.length_drop]; omega))) hst fun w hst => CN <| Op1.move (v := .tuple #[.int .u64 _, .bool _]) rfl <| CN <| Op1.extract (v := .int .u64 _) rfl rfl <| CN <| Op1.extract (v := .bool _) rfl rfl <| CN <| Op1.assign (v := .int .u64 _) rfl <| AB rfl <| NL ?_
 refine SQ <| SR <| MB rfl <| NL <| run_cond_split rfl (fun g1 => ?_) (fun g1 => ?_)
 · skip
   obtain ⟨n0, hn0⟩ := isSome_ex g1
   have hpr := plR_of hn0
   refine SR <| CN (Op1.move (v := .int .u64 _) rfl ?_)
   first | refine CN (Op1.convN ty149 ty22 rfl (wrap_u32 (by omega) (by omega)) ?_) | refine CN (Op1.conv ty149 ty22 rfl ?_)
   refine AU rfl <| AI rfl <| NL <| run_ret2 Tryz.func122 rfl (TP (v := .int .u32 _) rfl) (TP (v := .int .i64 _) rfl) ?_
   rw [numF_plain hn0, hpr.1]
   exact ⟨rfl, hst.pure⟩
 have hpn := isSome_no g1
 refine run_skip <| SQ <| SR <| MS rfl <| CN <| Op1.lenS (rest := []) ty9 rfl <| CN <| Op1.gtr rfl rfl <| MB rfl <| RunL.splitD (d := 18) rfl (fun g2 => ?_) (fun g2 => ?_)
 · skip
   refine TK (t := 18) rfl (congrArg Value.bool (decide_eq_true g2)) <| Op1.move (v := str _) rfl <| TK (t := 18) rfl (congrArg Value.bool (decide_eq_true g2)) <| Op1.indexS ty9 rfl rfl (by omega) (by omega) <| TK (t := 18) rfl (congrArg Value.bool (decide_eq_true g2)) <| Op1.eql rfl rfl <| CN <| Op1.pickT (u := .bool _) (congrArg Value.bool (decide_eq_true g2)) rfl <| NL <| run_cond_dec rfl (fun g3 => ?_) (fun g3 => ?_)
   · skip
     refine SR <| MS rfl <| CN <| Op1.sliceFrom ty9 rfl rfl (by omega) (by omega) <| CN <| Op1.call1 (v1 := str _) ent120 rfl rfl <| Ret.det (R7lx_Plain _ _ (by first | omega | (simp only [List.length_drop]; omega))) hst fun w hst => CN <| Op1.move (v := .tuple #[.int .u64 _, .bool _]) rfl <| CN <| Op1.extract (v := .int .u64 _) rfl rfl <| CN <| Op1.extract (v := .bool _) rfl rfl <| CN <| Op1.assign (v := .int .u64 _) rfl <| AB rfl <| NL <| Run.forget [(4, .int .u64 _), (5, .bool _)] ⟨rfl, rfl, trivial⟩ fun f => SQ <| SQ <| RG ?_
     refine MB rfl <| MB rfl <| RunL.split (d := 30) rfl (fun g4 => ?_) (fun g4 => ?_)
     · skip
       obtain ⟨m, hm0⟩ := isSome_ex g4
       have hm : plainF (s.drop 1) = some m := hm0
       have hpm := plR_of hm0
       have hpz : plR (s.drop ((1 : Int).toNat)) = m := hpm.1
       refine TK (t := 30) rfl (congrArg Value.bool g4) <| Op1.move (v := .int .u64 _) rfl <| TK (t := 30) rfl (congrArg Value.bool g4) <| Op1.geq rfl rfl <| CN <| Op1.pickT (u := .bool _) (congrArg Value.bool g4) rfl <| MB rfl <| RunL.splitD (d := 34) rfl (fun g5 => ?_) (fun g5 => ?_)
       · skip
         refine TK (t := 34) rfl (congrArg Value.bool (decide_eq_true g5)) <| Op1.move (v := .int .u64 _) rfl <| TK (t := 34) rfl (congrArg Value.bool (decide_eq_true g5)) <| Op1.leq rfl rfl <| CN <| Op1.pickT (u := .bool _) (congrArg Value.bool (decide_eq_true g5)) rfl <| NL <| run_cond_dec rfl (fun g6 => ?_) (fun g6 => ?_)
         · skip
           refine SR <| CN <| Op1.move (v := .int .u64 _) rfl <| CN (Op1.subN rfl rfl rfl (wrap_u64 (by omega) (by omega)) ?_)
           first | refine CN (Op1.convN ty149 ty22 rfl (wrap_u32 (by omega) (by omega)) ?_) | refine CN (Op1.conv ty149 ty22 rfl ?_)
           refine AU rfl <| AI rfl <| NL <| run_ret2 Tryz.func122 rfl (TP (v := .int .u32 _) rfl) (TP (v := .int .i64 _) rfl) ?_
           rw [numF_minus hpn (by omega) hm (by omega), show plR (s.drop ((1 : Int).toNat)) = m from hpm.1]
           exact ⟨rfl, hst.pure⟩
         refine run_skip <| SR <| AU rfl <| AI rfl <| NL <| run_ret2 Tryz.func122 rfl (TP (v := .int .u32 _) rfl) (TP (v := .int .i64 _) rfl) ?_
         rw [numF_minusBad hpn (by omega) (fun n hn => by rw [hm] at hn; cases hn; omega)]
         exact ⟨rfl, hst.pure⟩
       refine OM (t := 34) rfl (congrArg Value.bool (decide_eq_false g5)) rfl <| OM (t := 34) rfl (congrArg Value.bool (decide_eq_false g5)) rfl <| CN <| Op1.pickF (u := .bool _) (congrArg Value.bool (decide_eq_false g5)) rfl <| NL <| run_cond_false (congrArg Value.bool (rfl : false = _)) <| run_skip <| SR <| AU rfl <| AI rfl <| NL <| run_ret2 Tryz.func122 rfl (TP (v := .int .u32 _) rfl) (TP (v := .int .i64 _) rfl) ?_
       rw [numF_minusBad hpn (by omega) (fun n hn => by rw [hm] at hn; cases hn; omega)]
       exact ⟨rfl, hst.pure⟩
     have hmn : plainF (s.drop 1) = none := isSome_no g4
     refine OM (t := 30) rfl (congrArg Value.bool g4) rfl <| OM (t := 30) rfl (congrArg Value.bool g4) rfl <| CN <| Op1.pickF (u := .bool _) (congrArg Value.bool g4) rfl <| MB rfl <| OM (t := 34) rfl (congrArg Value.bool (rfl : false = _)) rfl <| OM (t := 34) rfl (congrArg Value.bool (rfl : false = _)) rfl <| CN <| Op1.pickF (u := .bool _) (congrArg Value.bool (rfl : false = _)) rfl <| NL <| run_cond_false (congrArg Value.bool (rfl : false = _)) <| run_skip <| SR <| AU rfl <| AI rfl <| NL ?_
     refine run_ret2 Tryz.func122 rfl (TP (v := .int .u32 _) rfl) (TP (v := .int .i64 _) rfl) ?_
     rw [numF_minusBad hpn (by omega) (fun n hn => by rw [hmn] at hn; cases hn)]
     exact ⟨rfl, hst.pure⟩
   refine run_skip <| SQ <| SR <| MS rfl <| CN <| Op1.lenS (rest := []) ty9 rfl <| CN <| Op1.lss rfl rfl <| MB rfl <| RunL.splitD (d := 44) rfl (fun g7 => ?_) (fun g7 => ?_)
   · skip
     refine OM (t := 44) rfl (congrArg Value.bool (decide_eq_true g7)) rfl <| OM (t := 44) rfl (congrArg Value.bool (decide_eq_true g7)) rfl <| OM (t := 44) rfl (congrArg Value.bool (decide_eq_true g7)) rfl <| CN <| Op1.pickT (u := .bool _) (congrArg Value.bool (decide_eq_true g7)) rfl <| MB rfl <| OM (t := 49) rfl (congrArg Value.bool (rfl : true = _)) rfl <| OM (t := 49) rfl (congrArg Value.bool (rfl : true = _)) rfl <| OM (t := 49) rfl (congrArg Value.bool (rfl : true = _)) rfl <| CN <| Op1.pickT (u := .bool _) (congrArg Value.bool (rfl : true = _)) rfl <| MB rfl <| OM (t := 54) rfl (congrArg Value.bool (rfl : true = _)) rfl <| OM (t := 54) rfl (congrArg Value.bool (rfl : true = _)) rfl <| OM (t := 54) rfl (congrArg Value.bool (rfl : true = _)) rfl <| CN <| Op1.pickT (u := .bool _) (congrArg Value.bool (rfl : true = _)) rfl <| NL ?_
     refine Run.forget [(0, str _), (58, .bool _)] ⟨rfl, rfl, trivial⟩ fun f => run_cond_true (congrArg Value.bool (rfl : true = _)) <| SR <| AU rfl <| AI rfl <| NL <| run_ret2 Tryz.func122 rfl (TP (v := .int .u32 _) rfl) (TP (v := .int .i64 _) rfl) ?_
     rw [numF_bad hpn (by omega) (by omega)]
     exact ⟨rfl, hst.pure⟩
   refine TK (t := 44) rfl (congrArg Value.bool (decide_eq_false g7)) <| Op1.move (v := str _) rfl <| TK (t := 44) rfl (congrArg Value.bool (decide_eq_false g7)) <| Op1.lenS (rest := []) ty9 rfl <| TK (t := 44) rfl (congrArg Value.bool (decide_eq_false g7)) <| Op1.gtr rfl rfl <| CN <| Op1.pickF (u := .bool _) (congrArg Value.bool (decide_eq_false g7)) rfl <| MB rfl <| RunL.splitD (d := 49) rfl (fun g8 => ?_) (fun g8 => ?_)
   · skip
     refine OM (t := 49) rfl (congrArg Value.bool (decide_eq_true g8)) rfl <| OM (t := 49) rfl (congrArg Value.bool (decide_eq_true g8)) rfl <| OM (t := 49) rfl (congrArg Value.bool (decide_eq_true g8)) rfl <| CN <| Op1.pickT (u := .bool _) (congrArg Value.bool (decide_eq_true g8)) rfl <| MB rfl <| OM (t := 54) rfl (congrArg Value.bool (rfl : true = _)) rfl <| OM (t := 54) rfl (congrArg Value.bool (rfl : true = _)) rfl <| OM (t := 54) rfl (congrArg Value.bool (rfl : true = _)) rfl <| CN <| Op1.pickT (u := .bool _) (congrArg Value.bool (rfl : true = _)) rfl <| NL <| Run.forget [(0, str _), (58, .bool _)] ⟨rfl, rfl, trivial⟩ fun f => run_cond_true (congrArg Value.bool (rfl : true = _)) <| SR <| AU rfl ?_
     refine AI rfl <| NL <| run_ret2 Tryz.func122 rfl (TP (v := .int .u32 _) rfl) (TP (v := .int .i64 _) rfl) ?_
     rw [numF_bad hpn (by omega) (by omega)]
     exact ⟨rfl, hst.pure⟩
   refine TK (t := 49) rfl (congrArg Value.bool (decide_eq_false g8)) <| Op1.move (v := str _) rfl <| TK (t := 49) rfl (congrArg Value.bool (decide_eq_false g8)) <| Op1.indexS ty9 rfl rfl (by omega) (by omega) <| TK (t := 49) rfl (congrArg Value.bool (decide_eq_false g8)) <| Op1.neq rfl rfl <| CN <| Op1.pickF (u := .bool _) (congrArg Value.bool (decide_eq_false g8)) rfl <| MB rfl <| RunL.splitD (d := 54) rfl (fun g9 => ?_) (fun g9 => ?_)
   · skip
     refine OM (t := 54) rfl (congrArg Value.bool (decide_eq_true g9)) rfl <| OM (t := 54) rfl (congrArg Value.bool (decide_eq_true g9)) rfl <| OM (t := 54) rfl (congrArg Value.bool (decide_eq_true g9)) rfl <| CN <| Op1.pickT (u := .bool _) (congrArg Value.bool (decide_eq_true g9)) rfl <| NL <| Run.forget [(0, str _), (58, .bool _)] ⟨rfl, rfl, trivial⟩ fun f => run_cond_true (congrArg Value.bool (rfl : true = _)) <| SR <| AU rfl <| AI rfl <| NL <| run_ret2 Tryz.func122 rfl (TP (v := .int .u32 _) rfl) (TP (v := .int .i64 _) rfl) ?_
     rw [numF_bad hpn (by omega) (by omega)]
     exact ⟨rfl, hst.pure⟩
   refine TK (t := 54) rfl (congrArg Value.bool (decide_eq_false g9)) <| Op1.move (v := str _) rfl <| TK (t := 54) rfl (congrArg Value.bool (decide_eq_false g9)) <| Op1.indexS ty9 rfl rfl (by omega) (by omega) <| TK (t := 54) rfl (congrArg Value.bool (decide_eq_false g9)) <| Op1.neq rfl rfl <| CN <| Op1.pickF (u := .bool _) (congrArg Value.bool (decide_eq_false g9)) rfl <| NL <| Run.forget [(0, str _), (58, .bool _)] ⟨rfl, rfl, trivial⟩ fun f => run_cond_dec rfl (fun g10 => ?_) (fun g10 => ?_)
   · skip
     refine SR <| AU rfl <| AI rfl <| NL <| run_ret2 Tryz.func122 rfl (TP (v := .int .u32 _) rfl) (TP (v := .int .i64 _) rfl) ?_
     rw [numF_bad hpn (by omega) (by omega)]
     exact ⟨rfl, hst.pure⟩
   refine run_skip <| SR <| CN <| Op1.assign (v := .int .u64 _) rfl <| NL <| SQ <| SR <| AI rfl <| NL <| run_block <| run_loop <| Run.indW [(0, str _)] ⟨rfl, trivial⟩ (fun (qq : Nat × Nat) => [(4, .int .u64 (qq.2 : Int)), (6, .int .i64 ((qq.1 + 2 : Nat) : Int))]) (fun (qq : Nat × Nat) => []) (fun (qq : Nat × Nat) => qq.1 + 2 ≤ s.length ∧ qq.2 < 16 ^ qq.1 ∧ hexsF (s.drop 2) 0 = hexsF (s.drop (qq.1 + 2)) qq.2) (fun (qq : Nat × Nat) => s.length - qq.1) ((0, 0)) hst ⟨by (try dsimp only); omega, by decide, rfl⟩ ⟨rfl, rfl, trivial⟩ ?_
   intro ⟨k, n⟩ f w hst hJ ih11
   replace hst : St _ _ ([] ++ []) _ _ := hst
   replace hJ : k + 2 ≤ s.length ∧ n < 16 ^ k ∧ hexsF (s.drop 2) 0 = hexsF (s.drop (k + 2)) n := hJ
   refine Run.slots (sl := [(4, .int .u64 (n : Int)), (6, .int .i64 ((k + 2 : Nat) : Int))]) ⟨rfl, rfl, trivial⟩ ?_
   have hidx : (s.getD ((((k + 2 : Nat) : Int)).toNat) 0).toNat = (s.getD (k + 2) 0).toNat := rfl
   have hidw : worF (s.getD ((((k + 2 : Nat) : Int)).toNat) 0) = worF (s.getD (k + 2) 0) := rfl
   refine SQ <| SR <| MI rfl <| MS rfl <| CN <| Op1.lenS (rest := []) ty9 rfl <| CN <| Op1.lss rfl rfl <| NL <| run_cond_dec rfl (fun g12 => ?_) (fun g12 => ?_)
   · skip
     have hp16 := pow16_le (i := k) (by omega)
     refine run_skip <| SQ <| run_block <| SQ <| SR <| MS rfl <| MI rfl <| CN <| Op1.indexS ty9 rfl rfl (by omega) (by omega) <| CN <| Op1.call1 (v1 := .int .u8 _) ent169 rfl rfl <| Ret.det (R7lx_Hex _ _) hst fun w hst => CN <| Op1.not rfl <| NL <| run_cond_split rfl (fun g13 => ?_) (fun g13 => ?_)
     · skip
       have hnd : ¬ hexB (s.getD (k + 2) 0) = true := not_t g13
       refine SR <| AU rfl <| AI rfl <| NL <| run_ret2 Tryz.func122 rfl (TP (v := .int .u32 _) rfl) (TP (v := .int .i64 _) rfl) ?_
       rw [numF_hexBad hpn (by omega) (by omega) (hJ.2.2.trans (hexs_stop (by omega) hnd))]
       exact ⟨rfl, hst.pure⟩
     have hyd : hexB (s.getD (k + 2) 0) = true := not_f g13
     have hdb := (hex_bd hyd).2
     refine run_skip <| RG <| CN <| Op1.move (v := .int .u64 _) rfl <| CN <| Op1.mulN rfl rfl rfl (wrap_u64 (by omega) (by omega)) <| MS rfl <| MI rfl <| CN <| Op1.indexS ty9 rfl rfl (by omega) (by omega) <| CN <| Op1.call1 (v1 := .int .u8 _) ent170 rfl rfl <| Ret.det (R7lx_Worth _ hyd _) hst fun w hst => CN <| Op1.addN rfl rfl rfl (wrap_u64 (by omega) (by omega)) <| CN <| Op1.assign (v := .int .u64 _) rfl <| NL <| run_inBlock <| RG <| MI rfl <| CN (Op1.addN rfl rfl rfl (wrap_i64 (by omega) (by omega)) ?_)
     refine AI rfl <| NL <| run_inLoop ?_
     exact ih11 ((k + 1, 16 * n + worF (s.getD (k + 2) 0))) _ w (by (try dsimp only); omega) hst (⟨by (try dsimp only); omega, by (try dsimp only); exact pow16_step hJ.2.1 (by omega), by (try dsimp only); rw [hJ.2.2, hexs_step (by omega) hyd]⟩) ⟨rfl, trivial⟩ ⟨(congrArg (Value.int .u64) (by (try dsimp only); omega)), (congrArg (Value.int .i64) (by (try dsimp only); omega)), trivial⟩
   have hp16 := pow16_le8 (i := k) (by omega)
   refine run_exit (id := 0) rfl <| SR <| CN (Op1.move (v := .int .u64 _) rfl ?_)
   first | refine CN (Op1.convN ty149 ty22 rfl (wrap_u32 (by omega) (by omega)) ?_) | refine CN (Op1.conv ty149 ty22 rfl ?_)
   refine AU rfl <| AI rfl <| NL <| run_ret2 Tryz.func122 rfl (TP (v := .int .u32 _) rfl) (TP (v := .int .i64 _) rfl) ?_
   rw [numF_hex hpn (by omega) (by omega) (hJ.2.2.trans (hexs_end (by omega)))]
   exact ⟨rfl, hst.pure⟩
 refine OM (t := 18) rfl (congrArg Value.bool (decide_eq_false g2)) rfl <| OM (t := 18) rfl (congrArg Value.bool (decide_eq_false g2)) rfl <| OM (t := 18) rfl (congrArg Value.bool (decide_eq_false g2)) rfl <| CN <| Op1.pickF (u := .bool _) (congrArg Value.bool (decide_eq_false g2)) rfl <| NL <| run_cond_false (congrArg Value.bool (rfl : false = _)) <| run_skip <| SQ <| SR <| MS rfl <| CN <| Op1.lenS (rest := []) ty9 rfl <| CN <| Op1.lss rfl rfl <| MB rfl <| RunL.splitD (d := 44) rfl (fun g14 => ?_) (fun g14 => ?_)
 · skip
   refine OM (t := 44) rfl (congrArg Value.bool (decide_eq_true g14)) rfl <| OM (t := 44) rfl (congrArg Value.bool (decide_eq_true g14)) rfl <| OM (t := 44) rfl (congrArg Value.bool (decide_eq_true g14)) rfl <| CN <| Op1.pickT (u := .bool _) (congrArg Value.bool (decide_eq_true g14)) rfl <| MB rfl <| OM (t := 49) rfl (congrArg Value.bool (rfl : true = _)) rfl <| OM (t := 49) rfl (congrArg Value.bool (rfl : true = _)) rfl <| OM (t := 49) rfl (congrArg Value.bool (rfl : true = _)) rfl <| CN <| Op1.pickT (u := .bool _) (congrArg Value.bool (rfl : true = _)) rfl <| MB rfl <| OM (t := 54) rfl (congrArg Value.bool (rfl : true = _)) rfl <| OM (t := 54) rfl (congrArg Value.bool (rfl : true = _)) rfl <| OM (t := 54) rfl (congrArg Value.bool (rfl : true = _)) rfl <| CN <| Op1.pickT (u := .bool _) (congrArg Value.bool (rfl : true = _)) rfl <| NL ?_
   refine Run.forget [(0, str _), (58, .bool _)] ⟨rfl, rfl, trivial⟩ fun f => run_cond_true (congrArg Value.bool (rfl : true = _)) <| SR <| AU rfl <| AI rfl <| NL <| run_ret2 Tryz.func122 rfl (TP (v := .int .u32 _) rfl) (TP (v := .int .i64 _) rfl) ?_
   rw [numF_bad hpn (by omega) (by omega)]
   exact ⟨rfl, hst.pure⟩
 refine TK (t := 44) rfl (congrArg Value.bool (decide_eq_false g14)) <| Op1.move (v := str _) rfl <| TK (t := 44) rfl (congrArg Value.bool (decide_eq_false g14)) <| Op1.lenS (rest := []) ty9 rfl <| TK (t := 44) rfl (congrArg Value.bool (decide_eq_false g14)) <| Op1.gtr rfl rfl <| CN <| Op1.pickF (u := .bool _) (congrArg Value.bool (decide_eq_false g14)) rfl <| MB rfl <| RunL.splitD (d := 49) rfl (fun g15 => ?_) (fun g15 => ?_)
 · skip
   refine OM (t := 49) rfl (congrArg Value.bool (decide_eq_true g15)) rfl <| OM (t := 49) rfl (congrArg Value.bool (decide_eq_true g15)) rfl <| OM (t := 49) rfl (congrArg Value.bool (decide_eq_true g15)) rfl <| CN <| Op1.pickT (u := .bool _) (congrArg Value.bool (decide_eq_true g15)) rfl <| MB rfl <| OM (t := 54) rfl (congrArg Value.bool (rfl : true = _)) rfl <| OM (t := 54) rfl (congrArg Value.bool (rfl : true = _)) rfl <| OM (t := 54) rfl (congrArg Value.bool (rfl : true = _)) rfl <| CN <| Op1.pickT (u := .bool _) (congrArg Value.bool (rfl : true = _)) rfl <| NL <| Run.forget [(0, str _), (58, .bool _)] ⟨rfl, rfl, trivial⟩ fun f => run_cond_true (congrArg Value.bool (rfl : true = _)) <| SR <| AU rfl ?_
   refine AI rfl <| NL <| run_ret2 Tryz.func122 rfl (TP (v := .int .u32 _) rfl) (TP (v := .int .i64 _) rfl) ?_
   rw [numF_bad hpn (by omega) (by omega)]
   exact ⟨rfl, hst.pure⟩
 refine TK (t := 49) rfl (congrArg Value.bool (decide_eq_false g15)) <| Op1.move (v := str _) rfl <| TK (t := 49) rfl (congrArg Value.bool (decide_eq_false g15)) <| Op1.indexS ty9 rfl rfl (by omega) (by omega) <| TK (t := 49) rfl (congrArg Value.bool (decide_eq_false g15)) <| Op1.neq rfl rfl <| CN <| Op1.pickF (u := .bool _) (congrArg Value.bool (decide_eq_false g15)) rfl <| MB rfl <| RunL.splitD (d := 54) rfl (fun g16 => ?_) (fun g16 => ?_)
 · skip
   refine OM (t := 54) rfl (congrArg Value.bool (decide_eq_true g16)) rfl <| OM (t := 54) rfl (congrArg Value.bool (decide_eq_true g16)) rfl <| OM (t := 54) rfl (congrArg Value.bool (decide_eq_true g16)) rfl <| CN <| Op1.pickT (u := .bool _) (congrArg Value.bool (decide_eq_true g16)) rfl <| NL <| Run.forget [(0, str _), (58, .bool _)] ⟨rfl, rfl, trivial⟩ fun f => run_cond_true (congrArg Value.bool (rfl : true = _)) <| SR <| AU rfl <| AI rfl <| NL <| run_ret2 Tryz.func122 rfl (TP (v := .int .u32 _) rfl) (TP (v := .int .i64 _) rfl) ?_
   rw [numF_bad hpn (by omega) (by omega)]
   exact ⟨rfl, hst.pure⟩
 refine TK (t := 54) rfl (congrArg Value.bool (decide_eq_false g16)) <| Op1.move (v := str _) rfl <| TK (t := 54) rfl (congrArg Value.bool (decide_eq_false g16)) <| Op1.indexS ty9 rfl rfl (by omega) (by omega) <| TK (t := 54) rfl (congrArg Value.bool (decide_eq_false g16)) <| Op1.neq rfl rfl <| CN <| Op1.pickF (u := .bool _) (congrArg Value.bool (decide_eq_false g16)) rfl <| NL <| Run.forget [(0, str _), (58, .bool _)] ⟨rfl, rfl, trivial⟩ fun f => run_cond_dec rfl (fun g17 => ?_) (fun g17 => ?_)
 · skip
   refine SR <| AU rfl <| AI rfl <| NL <| run_ret2 Tryz.func122 rfl (TP (v := .int .u32 _) rfl) (TP (v := .int .i64 _) rfl) ?_
   rw [numF_bad hpn (by omega) (by omega)]
   exact ⟨rfl, hst.pure⟩
 refine run_skip <| SR <| CN <| Op1.assign (v := .int .u64 _) rfl <| NL <| SQ <| SR <| AI rfl <| NL <| run_block <| run_loop <| Run.indW [(0, str _)] ⟨rfl, trivial⟩ (fun (qq : Nat × Nat) => [(4, .int .u64 (qq.2 : Int)), (6, .int .i64 ((qq.1 + 2 : Nat) : Int))]) (fun (qq : Nat × Nat) => []) (fun (qq : Nat × Nat) => qq.1 + 2 ≤ s.length ∧ qq.2 < 16 ^ qq.1 ∧ hexsF (s.drop 2) 0 = hexsF (s.drop (qq.1 + 2)) qq.2) (fun (qq : Nat × Nat) => s.length - qq.1) ((0, 0)) hst ⟨by (try dsimp only); omega, by decide, rfl⟩ ⟨rfl, rfl, trivial⟩ ?_
 intro ⟨k, n⟩ f w hst hJ ih18
 replace hst : St _ _ ([] ++ []) _ _ := hst
 replace hJ : k + 2 ≤ s.length ∧ n < 16 ^ k ∧ hexsF (s.drop 2) 0 = hexsF (s.drop (k + 2)) n := hJ
 refine Run.slots (sl := [(4, .int .u64 (n : Int)), (6, .int .i64 ((k + 2 : Nat) : Int))]) ⟨rfl, rfl, trivial⟩ ?_
 have hidx : (s.getD ((((k + 2 : Nat) : Int)).toNat) 0).toNat = (s.getD (k + 2) 0).toNat := rfl
 have hidw : worF (s.getD ((((k + 2 : Nat) : Int)).toNat) 0) = worF (s.getD (k + 2) 0) := rfl
 refine SQ <| SR <| MI rfl <| MS rfl <| CN <| Op1.lenS (rest := []) ty9 rfl <| CN <| Op1.lss rfl rfl <| NL <| run_cond_dec rfl (fun g19 => ?_) (fun g19 => ?_)
 · skip
   have hp16 := pow16_le (i := k) (by omega)
   refine run_skip <| SQ <| run_block <| SQ <| SR <| MS rfl <| MI rfl <| CN <| Op1.indexS ty9 rfl rfl (by omega) (by omega) <| CN <| Op1.call1 (v1 := .int .u8 _) ent169 rfl rfl <| Ret.det (R7lx_Hex _ _) hst fun w hst => CN <| Op1.not rfl <| NL <| run_cond_split rfl (fun g20 => ?_) (fun g20 => ?_)
   · skip
     have hnd : ¬ hexB (s.getD (k + 2) 0) = true := not_t g20
     refine SR <| AU rfl <| AI rfl <| NL <| run_ret2 Tryz.func122 rfl (TP (v := .int .u32 _) rfl) (TP (v := .int .i64 _) rfl) ?_
     rw [numF_hexBad hpn (by omega) (by omega) (hJ.2.2.trans (hexs_stop (by omega) hnd))]
     exact ⟨rfl, hst.pure⟩
   have hyd : hexB (s.getD (k + 2) 0) = true := not_f g20
   have hdb := (hex_bd hyd).2
   refine run_skip <| RG <| CN <| Op1.move (v := .int .u64 _) rfl <| CN <| Op1.mulN rfl rfl rfl (wrap_u64 (by omega) (by omega)) <| MS rfl <| MI rfl <| CN <| Op1.indexS ty9 rfl rfl (by omega) (by omega) <| CN <| Op1.call1 (v1 := .int .u8 _) ent170 rfl rfl <| Ret.det (R7lx_Worth _ hyd _) hst fun w hst => CN <| Op1.addN rfl rfl rfl (wrap_u64 (by omega) (by omega)) <| CN <| Op1.assign (v := .int .u64 _) rfl <| NL <| run_inBlock <| RG <| MI rfl <| CN (Op1.addN rfl rfl rfl (wrap_i64 (by omega) (by omega)) ?_)
   refine AI rfl <| NL <| run_inLoop ?_
   exact ih18 ((k + 1, 16 * n + worF (s.getD (k + 2) 0))) _ w (by (try dsimp only); omega) hst (⟨by (try dsimp only); omega, by (try dsimp only); exact pow16_step hJ.2.1 (by omega), by (try dsimp only); rw [hJ.2.2, hexs_step (by omega) hyd]⟩) ⟨rfl, trivial⟩ ⟨(congrArg (Value.int .u64) (by (try dsimp only); omega)), (congrArg (Value.int .i64) (by (try dsimp only); omega)), trivial⟩
 have hp16 := pow16_le8 (i := k) (by omega)
 refine run_exit (id := 0) rfl <| SR <| CN (Op1.move (v := .int .u64 _) rfl ?_)
 first | refine CN (Op1.convN ty149 ty22 rfl (wrap_u32 (by omega) (by omega)) ?_) | refine CN (Op1.conv ty149 ty22 rfl ?_)
 refine AU rfl <| AI rfl <| NL <| run_ret2 Tryz.func122 rfl (TP (v := .int .u32 _) rfl) (TP (v := .int .i64 _) rfl) ?_
 rw [numF_hex hpn (by omega) (by omega) (hJ.2.2.trans (hexs_end (by omega)))]
 exact ⟨rfl, hst.pure⟩
theorem R7lx_Part (s : Tx) (x : Int) (a : Nat) (hx : x = a) (ha : a < s.length) (w : World) (hl : s.length ≤ 140737488355328) : Ret Tryz.prog 205 #[str s, .int .i64 x] w (fun v w' => v = partV (partF (s.drop a)) ∧ St w NoM [] [] w') := by
 refine Ret.enter (args := [str s, .int .i64 x]) Tryz.func205 rfl rfl rfl ?_
 have hst := St.init w
 subst hx
 have hidx1 : (s.getD (((a : Int) + 1).toNat) 0).toNat = (s.getD (a + 1) 0).toNat := rfl
 have hidx2 : (s.getD (((a : Int) + 2).toNat) 0).toNat = (s.getD (a + 2) 0).toNat := rfl
 have hidx3 : (s.getD (((a : Int) + 3).toNat) 0).toNat = (s.getD (a + 3) 0).toNat := rfl
 have hidx : (s.getD ((a : Int).toNat) 0).toNat = (s.getD a 0).toNat := rfl
 refine SR <| AC rfl <| AI rfl <| NSR <| MS rfl <| MI rfl <| CN <| Op1.indexS ty9 rfl rfl (by omega) (by omega) <| AC rfl <| NL <| SQ <| SQ <| RG ?_
 refine MC rfl <| CN <| Op1.lss rfl rfl <| MB rfl <| RunL.splitD (d := 12) rfl (fun g1 => ?_) (fun g1 => ?_)
 · skip
   refine OM (t := 12) rfl (congrArg Value.bool (decide_eq_true g1)) rfl <| OM (t := 12) rfl (congrArg Value.bool (decide_eq_true g1)) rfl <| CN <| Op1.pickT (u := .bool _) (congrArg Value.bool (decide_eq_true g1)) rfl <| MB rfl <| OM (t := 16) rfl (congrArg Value.bool (rfl : true = _)) rfl <| OM (t := 16) rfl (congrArg Value.bool (rfl : true = _)) rfl <| CN <| Op1.pickT (u := .bool _) (congrArg Value.bool (rfl : true = _)) rfl <| NL <| run_cond_true (congrArg Value.bool (rfl : true = _)) <| SR <| AC rfl <| AI rfl <| NL <| run_ret2 Tryz.func205 rfl (TP (v := .int .u8 _) rfl) (TP (v := .int .i64 _) rfl) ?_
   rw [part_no1 ha (by omega)]
   exact ⟨rfl, hst.pure⟩
 refine TK (t := 12) rfl (congrArg Value.bool (decide_eq_false g1)) <| Op1.move (v := .int .u8 _) rfl <| TK (t := 12) rfl (congrArg Value.bool (decide_eq_false g1)) <| Op1.gtr rfl rfl <| CN <| Op1.pickF (u := .bool _) (congrArg Value.bool (decide_eq_false g1)) rfl <| MB rfl <| RunL.splitD (d := 16) rfl (fun g2 => ?_) (fun g2 => ?_)
 · skip
   refine OM (t := 16) rfl (congrArg Value.bool (decide_eq_true g2)) rfl <| OM (t := 16) rfl (congrArg Value.bool (decide_eq_true g2)) rfl <| CN <| Op1.pickT (u := .bool _) (congrArg Value.bool (decide_eq_true g2)) rfl <| NL <| run_cond_true (congrArg Value.bool (rfl : true = _)) <| SR <| AC rfl <| AI rfl <| NL <| run_ret2 Tryz.func205 rfl (TP (v := .int .u8 _) rfl) (TP (v := .int .i64 _) rfl) ?_
   rw [part_no1 ha (by omega)]
   exact ⟨rfl, hst.pure⟩
 refine TK (t := 16) rfl (congrArg Value.bool (decide_eq_false g2)) <| Op1.move (v := .int .u8 _) rfl <| TK (t := 16) rfl (congrArg Value.bool (decide_eq_false g2)) <| Op1.eql rfl rfl <| CN <| Op1.pickF (u := .bool _) (congrArg Value.bool (decide_eq_false g2)) rfl <| NL <| run_cond_dec rfl (fun g3 => ?_) (fun g3 => ?_)
 · skip
   refine SR <| AC rfl <| AI rfl <| NL <| run_ret2 Tryz.func205 rfl (TP (v := .int .u8 _) rfl) (TP (v := .int .i64 _) rfl) ?_
   rw [part_no1 ha (by omega)]
   exact ⟨rfl, hst.pure⟩
 refine run_skip <| SQ <| SR <| MC rfl <| CN <| Op1.neq rfl rfl <| NL <| run_cond_dec rfl (fun g4 => ?_) (fun g4 => ?_)
 · skip
   refine SR <| MC rfl <| AC rfl <| AI rfl <| NL <| run_ret2 Tryz.func205 rfl (TP (v := .int .u8 _) rfl) (TP (v := .int .i64 _) rfl) ?_
   rw [part_one ha (by omega) (by omega)]
   exact ⟨rfl, hst.pure⟩
 refine run_skip <| SQ <| SR <| MI rfl <| CN <| Op1.addN rfl rfl rfl (wrap_i64 (by omega) (by omega)) <| MS rfl <| CN <| Op1.lenS (rest := []) ty9 rfl <| CN <| Op1.lss rfl rfl <| MB rfl <| RunL.splitD (d := 28) rfl (fun g5 => ?_) (fun g5 => ?_)
 · skip
   refine TK (t := 28) rfl (congrArg Value.bool (decide_eq_true g5)) <| Op1.move (v := str _) rfl <| TK (t := 28) rfl (congrArg Value.bool (decide_eq_true g5)) <| Op1.move (v := .int .i64 _) rfl <| TK (t := 28) rfl (congrArg Value.bool (decide_eq_true g5)) <| Op1.addN rfl rfl rfl (wrap_i64 (by omega) (by omega)) <| TK (t := 28) rfl (congrArg Value.bool (decide_eq_true g5)) <| Op1.indexS ty9 rfl rfl (by omega) (by omega) <| TK (t := 28) rfl (congrArg Value.bool (decide_eq_true g5)) <| Op1.eql rfl rfl <| TK (t := 28) rfl (congrArg Value.bool (decide_eq_true g5)) <| Op1.move (v := .bool _) rfl <| RunL.splitD (d := 34) rfl (fun g6 => ?_) (fun g6 => ?_)
   · skip
     refine OM (t := 34) rfl (congrArg Value.bool (decide_eq_true g6)) rfl <| OM (t := 34) rfl (congrArg Value.bool (decide_eq_true g6)) rfl <| OM (t := 34) rfl (congrArg Value.bool (decide_eq_true g6)) rfl <| OM (t := 34) rfl (congrArg Value.bool (decide_eq_true g6)) rfl <| OM (t := 34) rfl (congrArg Value.bool (decide_eq_true g6)) rfl <| TK (t := 28) rfl (congrArg Value.bool (decide_eq_true g5)) <| Op1.pickT (u := .bool _) (congrArg Value.bool (decide_eq_true g6)) rfl <| CN <| Op1.pickT (u := .bool _) (congrArg Value.bool (decide_eq_true g5)) rfl <| NL <| Run.forget [(0, str _), (1, .int .i64 _), (41, .bool _)] ⟨rfl, rfl, rfl, trivial⟩ fun f => run_cond_true (congrArg Value.bool (rfl : true = _)) <| SR <| MS rfl <| MI rfl <| CN (Op1.addN rfl rfl rfl (wrap_i64 (by omega) (by omega)) ?_)
     refine CN <| Op1.indexS ty9 rfl rfl (by omega) (by omega) <| AC rfl <| AI rfl <| NL <| run_ret2 Tryz.func205 rfl (TP (v := .int .u8 _) rfl) (TP (v := .int .i64 _) rfl) ?_
     rw [part_two ha (by omega) (by omega) (by omega)]
     exact ⟨rfl, hst.pure⟩
   refine TK (t := 34) rfl (congrArg Value.bool (decide_eq_false g6)) <| Op1.move (v := str _) rfl <| TK (t := 34) rfl (congrArg Value.bool (decide_eq_false g6)) <| Op1.move (v := .int .i64 _) rfl <| TK (t := 34) rfl (congrArg Value.bool (decide_eq_false g6)) <| Op1.addN rfl rfl rfl (wrap_i64 (by omega) (by omega)) <| TK (t := 34) rfl (congrArg Value.bool (decide_eq_false g6)) <| Op1.indexS ty9 rfl rfl (by omega) (by omega) <| TK (t := 34) rfl (congrArg Value.bool (decide_eq_false g6)) <| Op1.eql rfl rfl <| TK (t := 28) rfl (congrArg Value.bool (decide_eq_true g5)) <| Op1.pickF (u := .bool _) (congrArg Value.bool (decide_eq_false g6)) rfl <| CN <| Op1.pickT (u := .bool _) (congrArg Value.bool (decide_eq_true g5)) rfl <| NL <| Run.forget [(0, str _), (1, .int .i64 _), (41, .bool _)] ⟨rfl, rfl, rfl, trivial⟩ fun f => run_cond_dec rfl (fun g7 => ?_) (fun g7 => ?_)
   · skip
     refine SR <| MS rfl <| MI rfl <| CN <| Op1.addN rfl rfl rfl (wrap_i64 (by omega) (by omega)) <| CN <| Op1.indexS ty9 rfl rfl (by omega) (by omega) <| AC rfl <| AI rfl <| NL <| run_ret2 Tryz.func205 rfl (TP (v := .int .u8 _) rfl) (TP (v := .int .i64 _) rfl) ?_
     rw [part_two ha (by omega) (by omega) (by omega)]
     exact ⟨rfl, hst.pure⟩
   refine run_skip <| SQ <| SR <| MI rfl <| CN <| Op1.addN rfl rfl rfl (wrap_i64 (by omega) (by omega)) <| MS rfl <| CN <| Op1.lenS (rest := []) ty9 rfl <| CN <| Op1.lss rfl rfl <| MB rfl <| RunL.splitD (d := 51) rfl (fun g8 => ?_) (fun g8 => ?_)
   · skip
     refine TK (t := 51) rfl (congrArg Value.bool (decide_eq_true g8)) <| Op1.move (v := str _) rfl <| TK (t := 51) rfl (congrArg Value.bool (decide_eq_true g8)) <| Op1.move (v := .int .i64 _) rfl <| TK (t := 51) rfl (congrArg Value.bool (decide_eq_true g8)) <| Op1.addN rfl rfl rfl (wrap_i64 (by omega) (by omega)) <| TK (t := 51) rfl (congrArg Value.bool (decide_eq_true g8)) <| Op1.indexS ty9 rfl rfl (by omega) (by omega) <| TK (t := 51) rfl (congrArg Value.bool (decide_eq_true g8)) <| Op1.eql rfl rfl <| CN <| Op1.pickT (u := .bool _) (congrArg Value.bool (decide_eq_true g8)) rfl <| MB rfl <| RunL.splitD (d := 58) rfl (fun g9 => ?_) (fun g9 => ?_)
     · skip
       refine TK (t := 58) rfl (congrArg Value.bool (decide_eq_true g9)) <| Op1.move (v := str _) rfl <| TK (t := 58) rfl (congrArg Value.bool (decide_eq_true g9)) <| Op1.move (v := .int .i64 _) rfl <| TK (t := 58) rfl (congrArg Value.bool (decide_eq_true g9)) <| Op1.addN rfl rfl rfl (wrap_i64 (by omega) (by omega)) <| TK (t := 58) rfl (congrArg Value.bool (decide_eq_true g9)) <| Op1.indexS ty9 rfl rfl (by omega) (by omega) <| TK (t := 58) rfl (congrArg Value.bool (decide_eq_true g9)) (Op1.call1 (v1 := .int .u8 _) ent169 rfl rfl ((R7lx_Hex _ _).mono fun v w hp => ?_))
       obtain ⟨rfl, hp⟩ := hp
       replace hst := hst.keepc hp
       clear hp
       refine CN <| Op1.pickT (u := .bool _) (congrArg Value.bool (decide_eq_true g9)) rfl <| MB rfl <| RunL.split (d := 65) rfl (fun g10 => ?_) (fun g10 => ?_)
       · skip
         refine TK (t := 65) rfl (congrArg Value.bool g10) <| Op1.move (v := str _) rfl <| TK (t := 65) rfl (congrArg Value.bool g10) <| Op1.move (v := .int .i64 _) rfl <| TK (t := 65) rfl (congrArg Value.bool g10) <| Op1.addN rfl rfl rfl (wrap_i64 (by omega) (by omega)) <| TK (t := 65) rfl (congrArg Value.bool g10) <| Op1.indexS ty9 rfl rfl (by omega) (by omega) <| TK (t := 65) rfl (congrArg Value.bool g10) (Op1.call1 (v1 := .int .u8 _) ent169 rfl rfl ((R7lx_Hex _ _).mono fun v w hp => ?_))
         obtain ⟨rfl, hp⟩ := hp
         replace hst := hst.keepc hp
         clear hp
         refine CN <| Op1.pickT (u := .bool _) (congrArg Value.bool g10) rfl <| NL <| Run.forget [(0, str _), (1, .int .i64 _), (71, .bool _)] ⟨rfl, rfl, rfl, trivial⟩ fun f => run_cond_split rfl (fun g11 => ?_) (fun g11 => ?_)
         · skip
           have hw2 := (hex_bd g10).2
           have hw3 := (hex_bd g11).2
           refine SQ <| RunD.start [] hst (bs := [0, 0, 2, 7, 15, 31, 0, 0, 128, 448, 991, 2047, 4095, 8191, 16383]) (ds := [some 72, some 73, some 74, some 75, some 76, some 77, some 78, some 79, some 80, some 81, some 82, some 83, some 84, some 4, some 5]) ⟨by kernel_rfl, by kernel_rfl, by kernel_rfl⟩ (fun tab12 => ?_)
           refine RunD.op (det _) tab12 1 (fun f' L' w' hc => Op1.move (v := str _) (hc.old (v := str _) rfl rfl rfl) ⟨[], ⟨rfl, rfl⟩, hc.st⟩) <| RunD.op (det _) tab12 2 (fun f' L' w' hc => Op1.move (v := .int .i64 _) (hc.old (v := .int .i64 _) rfl rfl rfl) ⟨[], ⟨rfl, rfl⟩, hc.st⟩) <| RunD.op (det _) tab12 3 (fun f' L' w' hc => Op1.addN (hc.det (j := 1) rfl rfl rfl rfl) rfl rfl (wrap_i64 (by omega) (by omega)) ⟨[], ⟨rfl, rfl⟩, hc.st⟩) <| RunD.op (det _) tab12 4 (fun f' L' w' hc => Op1.indexS ty9 (hc.det (j := 0) rfl rfl rfl rfl) (hc.det (j := 2) rfl rfl rfl rfl) (by omega) (by omega) ⟨[], ⟨rfl, rfl⟩, hc.st⟩) <| RunD.op (det _) tab12 5 (fun f' L' w' hc => Op1.call1 (v1 := .int .u8 _) ent170 rfl (hc.det (j := 3) rfl rfl rfl rfl) ((R7lx_Worth _ g10 _).mono fun v w hp => ⟨[], ⟨hp.1, rfl⟩, hc.st.keepc hp.2⟩)) <| RunD.op (det _) tab12 6 (fun f' L' w' hc => Op1.mulN rfl (hc.det (j := 4) rfl rfl rfl rfl) rfl (wrap_u64 (by omega) (by omega)) ⟨[], ⟨rfl, rfl⟩, hc.st⟩) <| RunD.op (det _) tab12 7 (fun f' L' w' hc => Op1.move (v := str _) (hc.old (v := str _) rfl rfl rfl) ⟨[], ⟨rfl, rfl⟩, hc.st⟩) <| RunD.op (det _) tab12 8 (fun f' L' w' hc => Op1.move (v := .int .i64 _) (hc.old (v := .int .i64 _) rfl rfl rfl) ⟨[], ⟨rfl, rfl⟩, hc.st⟩) <| RunD.op (det _) tab12 9 (fun f' L' w' hc => Op1.addN (hc.det (j := 7) rfl rfl rfl rfl) rfl rfl (wrap_i64 (by omega) (by omega)) ⟨[], ⟨rfl, rfl⟩, hc.st⟩) <| RunD.op (det _) tab12 10 (fun f' L' w' hc => Op1.indexS ty9 (hc.det (j := 6) rfl rfl rfl rfl) (hc.det (j := 8) rfl rfl rfl rfl) (by omega) (by omega) ⟨[], ⟨rfl, rfl⟩, hc.st⟩) <| RunD.op (det _) tab12 11 (fun f' L' w' hc => Op1.call1 (v1 := .int .u8 _) ent170 rfl (hc.det (j := 9) rfl rfl rfl rfl) ((R7lx_Worth _ g11 _).mono fun v w hp => ⟨[], ⟨hp.1, rfl⟩, hc.st.keepc hp.2⟩)) <| RunD.fin followsMixed tab12 hst rfl (fun f13 w R16 hs14 hd15 hr17 hst => ?_)
           obtain ⟨h72_, r0⟩ := hd15 0 72 rfl rfl
           obtain ⟨h73_, r1⟩ := hd15 1 73 rfl rfl
           obtain ⟨h74_, r2⟩ := hd15 2 74 rfl rfl
           obtain ⟨h75_, r3⟩ := hd15 3 75 rfl rfl
           obtain ⟨h76_, r4⟩ := hd15 4 76 rfl rfl
           obtain ⟨h77_, r5⟩ := hd15 5 77 rfl rfl
           obtain ⟨h78_, r6⟩ := hd15 6 78 rfl rfl
           obtain ⟨h79_, r7⟩ := hd15 7 79 rfl rfl
           obtain ⟨h80_, r8⟩ := hd15 8 80 rfl rfl
           obtain ⟨h81_, r9⟩ := hd15 9 81 rfl rfl
           obtain ⟨h82_, r10⟩ := hd15 10 82 rfl rfl
           simp only [show List.range 11 = [0, 1, 2, 3, 4, 5, 6, 7, 8, 9, 10] from rfl, List.flatMap_cons, List.flatMap_nil, List.map_cons, List.map_nil, r0, r1, r2, r3, r4, r5, r6, r7, r8, r9, r10, List.nil_append, List.append_nil, List.cons_append] at hst
           refine RunL.slots (sl := [(77, .int .u64 _), (82, .int .u64 _)]) ⟨h77_, h82_, trivial⟩ ?_
           clear hs14 hd15 hr17 tab12
           refine CN (Op1.addN rfl rfl rfl (wrap_u64 (by omega) (by omega)) ?_)
           first | refine CN (Op1.convN ty149 ty5 rfl (wrap_u8 (by omega) (by omega)) ?_) | refine CN (Op1.conv ty149 ty5 rfl ?_)
           refine AC rfl <| AI rfl <| NL <| run_ret2 Tryz.func205 rfl (TP (v := .int .u8 _) rfl) (TP (v := .int .i64 _) rfl) ?_
           rw [part_four ha (by omega) (by omega) (by omega) g10 g11]
           unfold partV; dsimp only [Option.getD]
           have hb4 : ((UInt8.ofNat (16 * worF (s.getD (a + 2) 0) + worF (s.getD (a + 3) 0))).toNat : Int) = 16 * (worF (s.getD (a + 2) 0) : Int) + (worF (s.getD (a + 3) 0) : Int) := hex_byte hw2 hw3
           rw [hb4]
           exact ⟨rfl, hst.pure⟩
         refine run_skip <| SR <| AC rfl <| AI rfl <| NL <| run_ret2 Tryz.func205 rfl (TP (v := .int .u8 _) rfl) (TP (v := .int .i64 _) rfl) ?_
         have hq4 : ¬ (a + 3 < s.length ∧ (s.getD (a + 1) 0).toNat = 120 ∧ hexB (s.getD (a + 2) 0) = true ∧ hexB (s.getD (a + 3) 0) = true) := by intro ⟨q1, q2, q3, q4⟩; first | omega | exact absurd (q4.symm.trans g11) (by decide)
         rw [part_no2 ha (by omega) (by omega) hq4]
         exact ⟨rfl, hst.pure⟩
       refine OM (t := 65) rfl (congrArg Value.bool g10) rfl <| OM (t := 65) rfl (congrArg Value.bool g10) rfl <| OM (t := 65) rfl (congrArg Value.bool g10) rfl <| OM (t := 65) rfl (congrArg Value.bool g10) rfl <| OM (t := 65) rfl (congrArg Value.bool g10) rfl <| CN <| Op1.pickF (u := .bool _) (congrArg Value.bool g10) rfl <| NL <| Run.forget [(0, str _), (1, .int .i64 _), (71, .bool _)] ⟨rfl, rfl, rfl, trivial⟩ fun f => run_cond_false (congrArg Value.bool (rfl : false = _)) <| run_skip <| SR <| AC rfl <| AI rfl <| NL ?_
       refine run_ret2 Tryz.func205 rfl (TP (v := .int .u8 _) rfl) (TP (v := .int .i64 _) rfl) ?_
       have hq4 : ¬ (a + 3 < s.length ∧ (s.getD (a + 1) 0).toNat = 120 ∧ hexB (s.getD (a + 2) 0) = true ∧ hexB (s.getD (a + 3) 0) = true) := by intro ⟨q1, q2, q3, q4⟩; first | omega | exact absurd (q3.symm.trans g10) (by decide)
       rw [part_no2 ha (by omega) (by omega) hq4]
       exact ⟨rfl, hst.pure⟩
     refine OM (t := 58) rfl (congrArg Value.bool (decide_eq_false g9)) rfl <| OM (t := 58) rfl (congrArg Value.bool (decide_eq_false g9)) rfl <| OM (t := 58) rfl (congrArg Value.bool (decide_eq_false g9)) rfl <| OM (t := 58) rfl (congrArg Value.bool (decide_eq_false g9)) rfl <| OM (t := 58) rfl (congrArg Value.bool (decide_eq_false g9)) rfl <| CN <| Op1.pickF (u := .bool _) (congrArg Value.bool (decide_eq_false g9)) rfl <| MB rfl <| OM (t := 65) rfl (congrArg Value.bool (rfl : false = _)) rfl <| OM (t := 65) rfl (congrArg Value.bool (rfl : false = _)) rfl <| OM (t := 65) rfl (congrArg Value.bool (rfl : false = _)) rfl <| OM (t := 65) rfl (congrArg Value.bool (rfl : false = _)) rfl <| OM (t := 65) rfl (congrArg Value.bool (rfl : false = _)) rfl <| CN <| Op1.pickF (u := .bool _) (congrArg Value.bool (rfl : false = _)) rfl <| NL <| run_cond_false (congrArg Value.bool (rfl : false = _)) ?_
     refine run_skip <| SR <| AC rfl <| AI rfl <| NL <| run_ret2 Tryz.func205 rfl (TP (v := .int .u8 _) rfl) (TP (v := .int .i64 _) rfl) ?_
     have hq4 : ¬ (a + 3 < s.length ∧ (s.getD (a + 1) 0).toNat = 120 ∧ hexB (s.getD (a + 2) 0) = true ∧ hexB (s.getD (a + 3) 0) = true) := by intro ⟨q1, q2, q3, q4⟩; first | omega
     rw [part_no2 ha (by omega) (by omega) hq4]
     exact ⟨rfl, hst.pure⟩
   refine OM (t := 51) rfl (congrArg Value.bool (decide_eq_false g8)) rfl <| OM (t := 51) rfl (congrArg Value.bool (decide_eq_false g8)) rfl <| OM (t := 51) rfl (congrArg Value.bool (decide_eq_false g8)) rfl <| OM (t := 51) rfl (congrArg Value.bool (decide_eq_false g8)) rfl <| OM (t := 51) rfl (congrArg Value.bool (decide_eq_false g8)) rfl <| CN <| Op1.pickF (u := .bool _) (congrArg Value.bool (decide_eq_false g8)) rfl <| MB rfl <| OM (t := 58) rfl (congrArg Value.bool (rfl : false = _)) rfl <| OM (t := 58) rfl (congrArg Value.bool (rfl : false = _)) rfl <| OM (t := 58) rfl (congrArg Value.bool (rfl : false = _)) rfl <| OM (t := 58) rfl (congrArg Value.bool (rfl : false = _)) rfl <| OM (t := 58) rfl (congrArg Value.bool (rfl : false = _)) rfl <| CN <| Op1.pickF (u := .bool _) (congrArg Value.bool (rfl : false = _)) rfl <| MB rfl <| OM (t := 65) rfl (congrArg Value.bool (rfl : false = _)) rfl ?_
   refine OM (t := 65) rfl (congrArg Value.bool (rfl : false = _)) rfl <| OM (t := 65) rfl (congrArg Value.bool (rfl : false = _)) rfl <| OM (t := 65) rfl (congrArg Value.bool (rfl : false = _)) rfl <| OM (t := 65) rfl (congrArg Value.bool (rfl : false = _)) rfl <| CN <| Op1.pickF (u := .bool _) (congrArg Value.bool (rfl : false = _)) rfl <| NL <| run_cond_false (congrArg Value.bool (rfl : false = _)) <| run_skip <| SR <| AC rfl <| AI rfl <| NL <| run_ret2 Tryz.func205 rfl (TP (v := .int .u8 _) rfl) (TP (v := .int .i64 _) rfl) ?_
   have hq4 : ¬ (a + 3 < s.length ∧ (s.getD (a + 1) 0).toNat = 120 ∧ hexB (s.getD (a + 2) 0) = true ∧ hexB (s.getD (a + 3) 0) = true) := by intro ⟨q1, q2, q3, q4⟩; first | omega
   rw [part_no2 ha (by omega) (by omega) hq4]
   exact ⟨rfl, hst.pure⟩
 refine OM (t := 28) rfl (congrArg Value.bool (decide_eq_false g5)) rfl <| OM (t := 28) rfl (congrArg Value.bool (decide_eq_false g5)) rfl <| OM (t := 28) rfl (congrArg Value.bool (decide_eq_false g5)) rfl <| OM (t := 28) rfl (congrArg Value.bool (decide_eq_false g5)) rfl <| OM (t := 28) rfl (congrArg Value.bool (decide_eq_false g5)) rfl <| OM (t := 28) rfl (congrArg Value.bool (decide_eq_false g5)) rfl <| RunL.omitU (t := 34) rfl rfl <| RunL.omitU (t := 34) rfl rfl <| RunL.omitU (t := 34) rfl rfl <| RunL.omitU (t := 34) rfl rfl <| RunL.omitU (t := 34) rfl rfl <| OM (t := 28) rfl (congrArg Value.bool (decide_eq_false g5)) rfl <| CN <| Op1.pickF (u := .bool _) (congrArg Value.bool (decide_eq_false g5)) rfl <| NL <| Run.forget [(0, str _), (1, .int .i64 _), (41, .bool _)] ⟨rfl, rfl, rfl, trivial⟩ (fun f => ?_)
 refine run_cond_false (congrArg Value.bool (rfl : false = _)) <| run_skip <| SQ <| SR <| MI rfl <| CN <| Op1.addN rfl rfl rfl (wrap_i64 (by omega) (by omega)) <| MS rfl <| CN <| Op1.lenS (rest := []) ty9 rfl <| CN <| Op1.lss rfl rfl <| MB rfl <| RunL.splitD (d := 51) rfl (fun g18 => ?_) (fun g18 => ?_)
 · skip
   refine TK (t := 51) rfl (congrArg Value.bool (decide_eq_true g18)) <| Op1.move (v := str _) rfl <| TK (t := 51) rfl (congrArg Value.bool (decide_eq_true g18)) <| Op1.move (v := .int .i64 _) rfl <| TK (t := 51) rfl (congrArg Value.bool (decide_eq_true g18)) <| Op1.addN rfl rfl rfl (wrap_i64 (by omega) (by omega)) <| TK (t := 51) rfl (congrArg Value.bool (decide_eq_true g18)) <| Op1.indexS ty9 rfl rfl (by omega) (by omega) <| TK (t := 51) rfl (congrArg Value.bool (decide_eq_true g18)) <| Op1.eql rfl rfl <| CN <| Op1.pickT (u := .bool _) (congrArg Value.bool (decide_eq_true g18)) rfl <| MB rfl <| RunL.splitD (d := 58) rfl (fun g19 => ?_) (fun g19 => ?_)
   · skip
     refine TK (t := 58) rfl (congrArg Value.bool (decide_eq_true g19)) <| Op1.move (v := str _) rfl <| TK (t := 58) rfl (congrArg Value.bool (decide_eq_true g19)) <| Op1.move (v := .int .i64 _) rfl <| TK (t := 58) rfl (congrArg Value.bool (decide_eq_true g19)) <| Op1.addN rfl rfl rfl (wrap_i64 (by omega) (by omega)) <| TK (t := 58) rfl (congrArg Value.bool (decide_eq_true g19)) <| Op1.indexS ty9 rfl rfl (by omega) (by omega) <| TK (t := 58) rfl (congrArg Value.bool (decide_eq_true g19)) (Op1.call1 (v1 := .int .u8 _) ent169 rfl rfl ((R7lx_Hex _ _).mono fun v w hp => ?_))
     obtain ⟨rfl, hp⟩ := hp
     replace hst := hst.keepc hp
     clear hp
     refine CN <| Op1.pickT (u := .bool _) (congrArg Value.bool (decide_eq_true g19)) rfl <| MB rfl <| RunL.split (d := 65) rfl (fun g20 => ?_) (fun g20 => ?_)
     · skip
       refine TK (t := 65) rfl (congrArg Value.bool g20) <| Op1.move (v := str _) rfl <| TK (t := 65) rfl (congrArg Value.bool g20) <| Op1.move (v := .int .i64 _) rfl <| TK (t := 65) rfl (congrArg Value.bool g20) <| Op1.addN rfl rfl rfl (wrap_i64 (by omega) (by omega)) <| TK (t := 65) rfl (congrArg Value.bool g20) <| Op1.indexS ty9 rfl rfl (by omega) (by omega) <| TK (t := 65) rfl (congrArg Value.bool g20) (Op1.call1 (v1 := .int .u8 _) ent169 rfl rfl ((R7lx_Hex _ _).mono fun v w hp => ?_))
       obtain ⟨rfl, hp⟩ := hp
       replace hst := hst.keepc hp
       clear hp
       refine CN <| Op1.pickT (u := .bool _) (congrArg Value.bool g20) rfl <| NL <| Run.forget [(0, str _), (1, .int .i64 _), (71, .bool _)] ⟨rfl, rfl, rfl, trivial⟩ fun f => run_cond_split rfl (fun g21 => ?_) (fun g21 => ?_)
       · skip
         have hw2 := (hex_bd g20).2
         have hw3 := (hex_bd g21).2
         refine SQ <| RunD.start [] hst (bs := [0, 0, 2, 7, 15, 31, 0, 0, 128, 448, 991, 2047, 4095, 8191, 16383]) (ds := [some 72, some 73, some 74, some 75, some 76, some 77, some 78, some 79, some 80, some 81, some 82, some 83, some 84, some 4, some 5]) ⟨by kernel_rfl, by kernel_rfl, by kernel_rfl⟩ (fun tab22 => ?_)
         refine RunD.op (det _) tab22 1 (fun f' L' w' hc => Op1.move (v := str _) (hc.old (v := str _) rfl rfl rfl) ⟨[], ⟨rfl, rfl⟩, hc.st⟩) <| RunD.op (det _) tab22 2 (fun f' L' w' hc => Op1.move (v := .int .i64 _) (hc.old (v := .int .i64 _) rfl rfl rfl) ⟨[], ⟨rfl, rfl⟩, hc.st⟩) <| RunD.op (det _) tab22 3 (fun f' L' w' hc => Op1.addN (hc.det (j := 1) rfl rfl rfl rfl) rfl rfl (wrap_i64 (by omega) (by omega)) ⟨[], ⟨rfl, rfl⟩, hc.st⟩) <| RunD.op (det _) tab22 4 (fun f' L' w' hc => Op1.indexS ty9 (hc.det (j := 0) rfl rfl rfl rfl) (hc.det (j := 2) rfl rfl rfl rfl) (by omega) (by omega) ⟨[], ⟨rfl, rfl⟩, hc.st⟩) <| RunD.op (det _) tab22 5 (fun f' L' w' hc => Op1.call1 (v1 := .int .u8 _) ent170 rfl (hc.det (j := 3) rfl rfl rfl rfl) ((R7lx_Worth _ g20 _).mono fun v w hp => ⟨[], ⟨hp.1, rfl⟩, hc.st.keepc hp.2⟩)) <| RunD.op (det _) tab22 6 (fun f' L' w' hc => Op1.mulN rfl (hc.det (j := 4) rfl rfl rfl rfl) rfl (wrap_u64 (by omega) (by omega)) ⟨[], ⟨rfl, rfl⟩, hc.st⟩) <| RunD.op (det _) tab22 7 (fun f' L' w' hc => Op1.move (v := str _) (hc.old (v := str _) rfl rfl rfl) ⟨[], ⟨rfl, rfl⟩, hc.st⟩) <| RunD.op (det _) tab22 8 (fun f' L' w' hc => Op1.move (v := .int .i64 _) (hc.old (v := .int .i64 _) rfl rfl rfl) ⟨[], ⟨rfl, rfl⟩, hc.st⟩) <| RunD.op (det _) tab22 9 (fun f' L' w' hc => Op1.addN (hc.det (j := 7) rfl rfl rfl rfl) rfl rfl (wrap_i64 (by omega) (by omega)) ⟨[], ⟨rfl, rfl⟩, hc.st⟩) <| RunD.op (det _) tab22 10 (fun f' L' w' hc => Op1.indexS ty9 (hc.det (j := 6) rfl rfl rfl rfl) (hc.det (j := 8) rfl rfl rfl rfl) (by omega) (by omega) ⟨[], ⟨rfl, rfl⟩, hc.st⟩) <| RunD.op (det _) tab22 11 (fun f' L' w' hc => Op1.call1 (v1 := .int .u8 _) ent170 rfl (hc.det (j := 9) rfl rfl rfl rfl) ((R7lx_Worth _ g21 _).mono fun v w hp => ⟨[], ⟨hp.1, rfl⟩, hc.st.keepc hp.2⟩)) <| RunD.fin followsMixed tab22 hst rfl (fun f23 w R26 hs24 hd25 hr27 hst => ?_)
         obtain ⟨h72_, r0⟩ := hd25 0 72 rfl rfl
         obtain ⟨h73_, r1⟩ := hd25 1 73 rfl rfl
         obtain ⟨h74_, r2⟩ := hd25 2 74 rfl rfl
         obtain ⟨h75_, r3⟩ := hd25 3 75 rfl rfl
         obtain ⟨h76_, r4⟩ := hd25 4 76 rfl rfl
         obtain ⟨h77_, r5⟩ := hd25 5 77 rfl rfl
         obtain ⟨h78_, r6⟩ := hd25 6 78 rfl rfl
         obtain ⟨h79_, r7⟩ := hd25 7 79 rfl rfl
         obtain ⟨h80_, r8⟩ := hd25 8 80 rfl rfl
         obtain ⟨h81_, r9⟩ := hd25 9 81 rfl rfl
         obtain ⟨h82_, r10⟩ := hd25 10 82 rfl rfl
         simp only [show List.range 11 = [0, 1, 2, 3, 4, 5, 6, 7, 8, 9, 10] from rfl, List.flatMap_cons, List.flatMap_nil, List.map_cons, List.map_nil, r0, r1, r2, r3, r4, r5, r6, r7, r8, r9, r10, List.nil_append, List.append_nil, List.cons_append] at hst
         refine RunL.slots (sl := [(77, .int .u64 _), (82, .int .u64 _)]) ⟨h77_, h82_, trivial⟩ ?_
         clear hs24 hd25 hr27 tab22
         refine CN (Op1.addN rfl rfl rfl (wrap_u64 (by omega) (by omega)) ?_)
         first | refine CN (Op1.convN ty149 ty5 rfl (wrap_u8 (by omega) (by omega)) ?_) | refine CN (Op1.conv ty149 ty5 rfl ?_)
         refine AC rfl <| AI rfl <| NL <| run_ret2 Tryz.func205 rfl (TP (v := .int .u8 _) rfl) (TP (v := .int .i64 _) rfl) ?_
         rw [part_four ha (by omega) (by omega) (by omega) g20 g21]
         unfold partV; dsimp only [Option.getD]
         have hb4 : ((UInt8.ofNat (16 * worF (s.getD (a + 2) 0) + worF (s.getD (a + 3) 0))).toNat : Int) = 16 * (worF (s.getD (a + 2) 0) : Int) + (worF (s.getD (a + 3) 0) : Int) := hex_byte hw2 hw3
         rw [hb4]
         exact ⟨rfl, hst.pure⟩
       refine run_skip <| SR <| AC rfl <| AI rfl <| NL <| run_ret2 Tryz.func205 rfl (TP (v := .int .u8 _) rfl) (TP (v := .int .i64 _) rfl) ?_
       have hq4 : ¬ (a + 3 < s.length ∧ (s.getD (a + 1) 0).toNat = 120 ∧ hexB (s.getD (a + 2) 0) = true ∧ hexB (s.getD (a + 3) 0) = true) := by intro ⟨q1, q2, q3, q4⟩; first | omega | exact absurd (q4.symm.trans g21) (by decide)
       rw [part_no2 ha (by omega) (by omega) hq4]
       exact ⟨rfl, hst.pure⟩
     refine OM (t := 65) rfl (congrArg Value.bool g20) rfl <| OM (t := 65) rfl (congrArg Value.bool g20) rfl <| OM (t := 65) rfl (congrArg Value.bool g20) rfl <| OM (t := 65) rfl (congrArg Value.bool g20) rfl <| OM (t := 65) rfl (congrArg Value.bool g20) rfl <| CN <| Op1.pickF (u := .bool _) (congrArg Value.bool g20) rfl <| NL <| Run.forget [(0, str _), (1, .int .i64 _), (71, .bool _)] ⟨rfl, rfl, rfl, trivial⟩ fun f => run_cond_false (congrArg Value.bool (rfl : false = _)) <| run_skip <| SR <| AC rfl <| AI rfl <| NL ?_
     refine run_ret2 Tryz.func205 rfl (TP (v := .int .u8 _) rfl) (TP (v := .int .i64 _) rfl) ?_
     have hq4 : ¬ (a + 3 < s.length ∧ (s.getD (a + 1) 0).toNat = 120 ∧ hexB (s.getD (a + 2) 0) = true ∧ hexB (s.getD (a + 3) 0) = true) := by intro ⟨q1, q2, q3, q4⟩; first | omega | exact absurd (q3.symm.trans g20) (by decide)
     rw [part_no2 ha (by omega) (by omega) hq4]
     exact ⟨rfl, hst.pure⟩
   refine OM (t := 58) rfl (congrArg Value.bool (decide_eq_false g19)) rfl <| OM (t := 58) rfl (congrArg Value.bool (decide_eq_false g19)) rfl <| OM (t := 58) rfl (congrArg Value.bool (decide_eq_false g19)) rfl <| OM (t := 58) rfl (congrArg Value.bool (decide_eq_false g19)) rfl <| OM (t := 58) rfl (congrArg Value.bool (decide_eq_false g19)) rfl <| CN <| Op1.pickF (u := .bool _) (congrArg Value.bool (decide_eq_false g19)) rfl <| MB rfl <| OM (t := 65) rfl (congrArg Value.bool (rfl : false = _)) rfl <| OM (t := 65) rfl (congrArg Value.bool (rfl : false = _)) rfl <| OM (t := 65) rfl (congrArg Value.bool (rfl : false = _)) rfl <| OM (t := 65) rfl (congrArg Value.bool (rfl : false = _)) rfl <| OM (t := 65) rfl (congrArg Value.bool (rfl : false = _)) rfl <| CN <| Op1.pickF (u := .bool _) (congrArg Value.bool (rfl : false = _)) rfl <| NL <| run_cond_false (congrArg Value.bool (rfl : false = _)) ?_
   refine run_skip <| SR <| AC rfl <| AI rfl <| NL <| run_ret2 Tryz.func205 rfl (TP (v := .int .u8 _) rfl) (TP (v := .int .i64 _) rfl) ?_
   have hq4 : ¬ (a + 3 < s.length ∧ (s.getD (a + 1) 0).toNat = 120 ∧ hexB (s.getD (a + 2) 0) = true ∧ hexB (s.getD (a + 3) 0) = true) := by intro ⟨q1, q2, q3, q4⟩; first | omega
   rw [part_no2 ha (by omega) (by omega) hq4]
   exact ⟨rfl, hst.pure⟩
 refine OM (t := 51) rfl (congrArg Value.bool (decide_eq_false g18)) rfl <| OM (t := 51) rfl (congrArg Value.bool (decide_eq_false g18)) rfl <| OM (t := 51) rfl (congrArg Value.bool (decide_eq_false g18)) rfl <| OM (t := 51) rfl (congrArg Value.bool (decide_eq_false g18)) rfl <| OM (t := 51) rfl (congrArg Value.bool (decide_eq_false g18)) rfl <| CN <| Op1.pickF (u := .bool _) (congrArg Value.bool (decide_eq_false g18)) rfl <| MB rfl <| OM (t := 58) rfl (congrArg Value.bool (rfl : false = _)) rfl <| OM (t := 58) rfl (congrArg Value.bool (rfl : false = _)) rfl <| OM (t := 58) rfl (congrArg Value.bool (rfl : false = _)) rfl <| OM (t := 58) rfl (congrArg Value.bool (rfl : false = _)) rfl <| OM (t := 58) rfl (congrArg Value.bool (rfl : false = _)) rfl <| CN <| Op1.pickF (u := .bool _) (congrArg Value.bool (rfl : false = _)) rfl <| MB rfl <| OM (t := 65) rfl (congrArg Value.bool (rfl : false = _)) rfl ?_
 refine OM (t := 65) rfl (congrArg Value.bool (rfl : false = _)) rfl <| OM (t := 65) rfl (congrArg Value.bool (rfl : false = _)) rfl <| OM (t := 65) rfl (congrArg Value.bool (rfl : false = _)) rfl <| OM (t := 65) rfl (congrArg Value.bool (rfl : false = _)) rfl <| CN <| Op1.pickF (u := .bool _) (congrArg Value.bool (rfl : false = _)) rfl <| NL <| run_cond_false (congrArg Value.bool (rfl : false = _)) <| run_skip <| SR <| AC rfl <| AI rfl <| NL <| run_ret2 Tryz.func205 rfl (TP (v := .int .u8 _) rfl) (TP (v := .int .i64 _) rfl) ?_
 have hq4 : ¬ (a + 3 < s.length ∧ (s.getD (a + 1) 0).toNat = 120 ∧ hexB (s.getD (a + 2) 0) = true ∧ hexB (s.getD (a + 3) 0) = true) := by intro ⟨q1, q2, q3, q4⟩; first | omega
 rw [part_no2 ha (by omega) (by omega) hq4]
 exact ⟨rfl, hst.pure⟩
end Go.SK
namespace Go.SK
open Go Go.Proofs
open Go.RowKit
open Go.Shelf
def LxG : Res where
 foot := fun b => b = 1 ∨ b = 2 ∨ b = 3
 holds := fun w => (∃ tp p T fz, w.heap[1]? = some (.cells #[.iface tp p] T fz)) ∧ (∃ tp p T fz, w.heap[2]? = some (.cells #[.iface tp p] T fz)) ∧ ∃ T fz, w.heap[3]? = some (.cells (Lib.pow10Tab.map fun z => Value.int .u64 z).toArray T fz)
 stable := fun w w' h hh => by rw [h _ (.inl rfl), h _ (.inr (.inl rfl)), h _ (.inr (.inr rfl))]; exact hh
 inb := fun w hh b hb => by
   obtain ⟨⟨_, _, _, _, h0⟩, ⟨_, _, _, _, h1⟩, ⟨_, _, h3⟩⟩ := hh
   rcases hb with rfl | rfl | rfl
   · exact (Array.getElem?_eq_some_iff.1 h0).1
   · exact (Array.getElem?_eq_some_iff.1 h1).1
   · exact (Array.getElem?_eq_some_iff.1 h3).1
theorem var_of {P : Program} {n : String} {k : Nat} {w : World} {cs : Array Value} {T : TypeId} {fz : Nat × Nat} (hn : P.globalNamed n = some k) (h : w.heap[k]? = some (.cells cs T fz)) : w.var? P n = some cs := by
 simp [World.var?, hn, h]
theorem cell_of {w : World} {k : Nat} {v : Value} {T : TypeId} {fz : Nat × Nat} (h : w.heap[k]? = some (.cells #[v] T fz)) : w.cell? ⟨k, 0, none⟩ = some v := by
 simp [World.cell?, h]
theorem lx_PU10 (s : Tx) (w : World) (hG : LxG.holds w) (hl : s.length ≤ 140737488355328) : Ret Tryz.prog 86 #[str s, .int .i64 10, .int .i64 32] w (fun v w' => (((puO s).isSome = true ∧ v = .tuple #[.int .u64 (puV s : Int), .nilIface]) ∨ ((puO s).isSome = false ∧ ∃ N, v = .tuple #[.int .u64 (puV s : Int), .iface 252 (.pointer (some ⟨N, 0, none⟩))])) ∧ St w NoM [] [] w') := by
 obtain ⟨⟨tp0, p0, _, _, h0⟩, ⟨tp1, p1, _, _, h1⟩, _⟩ := hG
 unfold puO puV
 cases h : Lib.parseUintB 32 s
 · rename_i u
   refine Calls.mono (Any.strconv_ParseUint_10_at32_ok lx_laysPu14 ⟨s.toArray⟩ (by rw [str_size]; omega) u h w) ?_
   rintro e w' ⟨he, hw⟩
   refine ⟨_, he, .inl ⟨rfl, rfl⟩, ?_⟩
   rcases hw with rfl | rfl
   · exact St.init _
   · exact St.ofBelow (Lib.bytesWorld_below _ _ _)
 · refine Calls.mono (Any.strconv_ParseUint_10_at32_syntax_var lx_laysPu14 ⟨s.toArray⟩ (by rw [str_size]; omega) h tp0 p0 w (var_of (by kernel_rfl) h0)) ?_
   rintro e w' ⟨N, he, _, _, hw⟩
   exact ⟨_, he, .inr ⟨rfl, N, rfl⟩, St.ofBelow hw⟩
 · refine Calls.mono (Any.strconv_ParseUint_10_at32_range_var lx_laysPu14 ⟨s.toArray⟩ (by rw [str_size]; omega) h tp1 p1 w (var_of (by kernel_rfl) h1)) ?_
   rintro e w' ⟨N, he, _, _, hw⟩
   exact ⟨_, he, .inr ⟨rfl, N, rfl⟩, St.ofBelow hw⟩
theorem lx_CP (s p : Tx) (w : World) : Ret Tryz.prog 84 #[str s, str p] w (fun v w' => v = .tuple #[str (Lib.trimPrefix s p), .bool (Lib.hasPrefix s p)] ∧ St w NoM [] [] w') :=
 Ret.ofEq (Any.strings_CutPrefix lx_lays103 ⟨s.toArray⟩ ⟨p.toArray⟩ w)
theorem lx_CPc (s p : Tx) (w : World) : Ret Tryz.prog 84 #[str s, str p] w (fun v w' => (s.take p.length = p ∧ v = .tuple #[str (s.drop p.length), .bool true] ∧ St w NoM [] [] w') ∨ (s.take p.length ≠ p ∧ v = .tuple #[str s, .bool false] ∧ St w NoM [] [] w')) :=
 (lx_CP s p w).mono fun v w' ⟨hv, hst⟩ => by
   cases h : Lib.hasPrefix s p
   · exact .inr ⟨(trim_no h).2, by rw [hv, (trim_no h).1, h], hst⟩
   · exact .inl ⟨(trim_yes h).2, by rw [hv, (trim_yes h).1, h], hst⟩
theorem lx_IB (s : Tx) (c : Int) (w : World) : Ret Tryz.prog 87 #[str s, .int .u8 c] w (fun v w' => v = .int .i64 (Lib.indexByte s c.toNat.toUInt8) ∧ St w NoM [] [] w') :=
 Ret.ofEq (Any.strings_IndexByte lx_lays137 ⟨s.toArray⟩ c w)
theorem lx_small (i : Nat) (h : i < 100) (w : World) : Ret Tryz.prog 195 #[.int .i64 (i : Int)] w (fun v w' => v = str (Lib.decDigits i) ∧ St w NoM [] [] w') :=
 Ret.ofEq (Any.internal_strconv_small lx_lays283 i h w)
theorem lx_numDigits (u : Nat) (w : World) (hG : LxG.holds w) (h1 : 1 ≤ u) (h2 : u < 18446744073709551616) : Ret Tryz.prog 196 #[.int .u64 (u : Int)] w (fun v w' => v = .int .i64 (Lib.nDigits u : Int) ∧ St w NoM [] [] w') := by
 obtain ⟨_, _, _, _, h3⟩ := hG
 exact Ret.ofEq (Any.internal_strconv_numDigits lx_laysM284 u h1 h2 w (var_of (by kernel_rfl) h3))
theorem lx_lower (c : Int) (w : World) : Ret Tryz.prog 187 #[.int .u8 c] w (fun v w' => v = .int .u8 (bits .or .u8 c 32) ∧ St w NoM [] [] w') :=
 Ret.ofEq (Any.internal_strconv_lower lx_lays321 c w)
theorem lx_TE (f0 s : Tx) (w : World) (hG : LxG.holds w) (hl : s.length ≤ 140737488355328) : Ret Tryz.prog 145 #[str f0, str s, .int .i64 16, .int .i64 32, .iface 251 (.int .i64 2)] w (fun v w' => (∃ N, v = .iface 252 (.pointer (some ⟨N, 0, none⟩))) ∧ St w NoM [] [] w') := by
 obtain ⟨⟨tp0, p0, _, _, h0⟩, _, _⟩ := hG
 refine Calls.mono (Any.strconv_toError_syntax lx_laysC245 ⟨f0.toArray⟩ ⟨s.toArray⟩ 16 32 (.iface tp0 p0) w (by rw [str_size]; omega) (cell_of h0) (.inr ⟨_, _, rfl⟩)) ?_
 rintro e w' ⟨N, he, _, _, hw⟩
 exact ⟨_, he, ⟨N, rfl⟩, St.ofBelow hw⟩
end Go.SK
namespace Go.SK
open Go Go.Proofs Go.RowKit Go.ChangeShapes Go.WideShapes Go.ChangeAt
open Go.Proofs.YtglmmdpeenckbaaGreatDoor
theorem var_inv {P : Program} {n : String} {k : Nat} {w : World} {cs : Array Value} (hn : P.globalNamed n = some k) (h : w.var? P n = some cs) : ∃ T fz, w.heap[k]? = some (.cells cs T fz) := by
 unfold World.var? at h
 rw [hn, Option.bind_some] at h
 split at h
 · cases h; rename_i T fz he; exact ⟨_, _, he⟩
 · cases h
theorem lxG_of {W : World} (h : laidMet Tryz.prog Rows.asmLinesRow.laid W) : LxG.holds W := by
 have h3 := Lib.tabIs_of_head (k := .u64) (zs := Lib.pow10Tab) (g := 3) (t := 278) (e := 149) (n := 20) (by kernel_rfl) (by kernel_rfl) Tryz.underlying278 Tryz.underlying149 (by kernel_rfl) (by kernel_rfl) (show laidMet Tryz.prog ((_, Lib.tabData .u64 Lib.pow10Tab) :: _) W from h.tail.tail)
 obtain ⟨a1, s1, hv1, _⟩ := laid_sentinel (g := 2) (ti := 151) (tp := 288) (te := 290) (ts := 9) h.tail.tail.tail (by kernel_rfl) (by kernel_rfl) Tryz.underlying151 (fun u hu => typeName_ptr_named (nm := "errors.errorString") (by kernel_rfl) (by kernel_rfl) (by decide) u (hu.trans (congrArg some (by decide)))) Tryz.underlying288 Tryz.underlying290 rfl rfl Tryz.underlying9 (by kernel_rfl) (by kernel_rfl)
 obtain ⟨a0, s0, hv0, _⟩ := laid_sentinel (g := 1) (ti := 151) (tp := 288) (te := 290) (ts := 9) h.tail.tail.tail.tail (by kernel_rfl) (by kernel_rfl) Tryz.underlying151 (fun u hu => typeName_ptr_named (nm := "errors.errorString") (by kernel_rfl) (by kernel_rfl) (by decide) u (hu.trans (congrArg some (by decide)))) Tryz.underlying288 Tryz.underlying290 rfl rfl Tryz.underlying9 (by kernel_rfl) (by kernel_rfl)
 obtain ⟨T1, f1, hh1⟩ := var_inv (by kernel_rfl) hv1
 obtain ⟨T0, f0, hh0⟩ := var_inv (by kernel_rfl) hv0
 obtain ⟨T3, f3, hh3⟩ := var_inv (by kernel_rfl) h3
 exact ⟨⟨_, _, _, _, hh0⟩, ⟨_, _, _, _, hh1⟩, ⟨_, _, hh3⟩⟩
theorem lx_door (os : Os) (args : Array Value) : laidMet Tryz.prog Rows.asmLinesRow.laid ((World.doorLaid Tryz.prog 400 os).forCall (fun _ _ => 0) ⟨#[], args, []⟩).memory :=
 laidMet_of_run' 8 (by kernel_rfl) (by kernel_rfl)
theorem lx_own : ownKnob Tryz.prog.godebug = none := by kernel_rfl
theorem lx_out : laidOutB Tryz.prog = true := by kernel_rfl
end Go.SK
namespace Go.SK
open Go Go.RowKit Go.ChangeShapes Go.WideShapes Go.ChangeAt
theorem open_str {H : Type} {enc : TypeId × Value → H} {P : Program} {w : World} {base : Nat} {sp : Nat → Bool} {held : Bool} {r : Reach} {b0 : Nat} {t : TypeId} {v : Value} {d : DataW H} {ps : List MemPlace} (ht : P.underlying t = some .string) (hval : Value.okWide P w r b0 t v) (hd : DataW.Trod enc P w base sp held t v d ps) :
   ∃ l : List UInt8, v = str l ∧ d = .lit (.string l) ∧ l.length ≤ 9223372036854775807 := by
 obtain ⟨s, rfl, rfl, _, hs⟩ := Go.ChangeMaps.open_string ht hval hd
 refine ⟨s.data.toList, str_of s, rfl, ?_⟩
 have h3 : s.size = s.data.toList.length := by cases s; rfl
 have : maxLen = 9223372036854775807 := by simp [maxLen]
 omega
end Go.SK
namespace Go.SK
theorem part_pos {s : Tx} {c : UInt8} {k : Nat} (e : partF s = some (c, k)) : 1 ≤ k ∧ k ≤ s.length := by
  cases s with
  | nil => cases e
  | cons a r => have := part_len (s := a :: r) (a := 0) (by simp) e; omega
theorem quoN_fuel : ∀ (n m : Nat) (s : Tx), s.length ≤ n → s.length ≤ m → quoN n s = quoN m s
  | 0, 0, s, _, _ => rfl
  | 0, m + 1, s, h, _ => by
    obtain rfl := List.length_eq_zero_iff.1 (Nat.le_zero.1 h); rfl
  | n + 1, 0, s, _, h => by
    obtain rfl := List.length_eq_zero_iff.1 (Nat.le_zero.1 h); rfl
  | n + 1, m + 1, s, h1, h2 => by
    rw [quoN, quoN]
    split
    · rfl
    · split
      · rfl
      · cases hp : partF s with
        | none => rfl
        | some q =>
          have := part_pos (c := q.1) (k := q.2) hp
          dsimp only
          rw [quoN_fuel n m (s.drop q.2) (by rw [List.length_drop]; omega) (by rw [List.length_drop]; omega)]
def quoA (s : Tx) (a : Nat) : Option (Tx × Nat) := quoN (s.length - a) (s.drop a)
theorem quo_end {s : Tx} {a : Nat} (h : s.length ≤ a) : quoA s a = none := by
  unfold quoA; rw [List.drop_eq_nil_of_le h, show s.length - a = 0 by omega]; rfl
theorem quo_unf {s : Tx} {a : Nat} (h : a < s.length) : quoA s a = if (s.getD a 0).toNat = 34 then some ([], 1) else match partF (s.drop a) with
    | none => none
    | some (c, k) => (quoN (s.length - a - 1) ((s.drop a).drop k)).map fun q => (c :: q.1, k + q.2) := by
  unfold quoA
  rw [show s.length - a = (s.length - a - 1) + 1 by omega, quoN, if_neg (by rw [List.length_drop]; omega)]
  have e : (s.drop a).getD 0 0 = s.getD a 0 := by rw [getD_drop]; rfl
  rw [e]; rfl
theorem quo_mark {s : Tx} {a : Nat} (h : a < s.length) (h1 : (s.getD a 0).toNat = 34) : quoA s a = some ([], 1) := by
  rw [quo_unf h, if_pos h1]
theorem quo_none {s : Tx} {a : Nat} (h : a < s.length) (h1 : ¬ (s.getD a 0).toNat = 34) (h2 : partF (s.drop a) = none) : quoA s a = none := by
  rw [quo_unf h, if_neg h1, h2]
theorem quo_step {s : Tx} {a k : Nat} {c : UInt8} (h : a < s.length) (h1 : ¬ (s.getD a 0).toNat = 34) (h2 : partF (s.drop a) = some (c, k)) : quoA s a = (quoA s (a + k)).map fun q => (c :: q.1, k + q.2) := by
  rw [quo_unf h, if_neg h1, h2]
  dsimp only
  unfold quoA
  have hk := part_len h h2
  rw [List.drop_drop, quoN_fuel (s.length - a - 1) (s.length - (a + k)) _ (by rw [List.length_drop]; omega) (by rw [List.length_drop]; omega)]
def quoI (s : Tx) (a i : Nat) (b : Tx) : Prop := a ≤ i ∧ i ≤ s.length ∧ b.length + a ≤ i ∧ quoA s a = (quoA s i).map fun q => (b ++ q.1, (i - a) + q.2)
theorem quoI_start {s : Tx} {a : Nat} (h : a ≤ s.length) : quoI s a a [] := by
  refine ⟨Nat.le_refl _, h, by simp, ?_⟩
  cases quoA s a with
  | none => rfl
  | some q => simp
theorem quoI_mark {s : Tx} {a i : Nat} {b : Tx} (h : quoI s a i b) (hi : i < s.length) (h1 : (s.getD i 0).toNat = 34) : quoA s a = some (b, i - a + 1) := by
  rw [h.2.2.2, quo_mark hi h1]; simp
theorem quoI_none {s : Tx} {a i : Nat} {b : Tx} (h : quoI s a i b) (hn : quoA s i = none) : quoA s a = none := by
  rw [h.2.2.2, hn]; rfl
theorem quoI_step {s : Tx} {a i k : Nat} {b : Tx} {c : UInt8} (h : quoI s a i b) (hi : i < s.length) (h1 : ¬ (s.getD i 0).toNat = 34) (h2 : partF (s.drop i) = some (c, k)) : quoI s a (i + k) (b ++ [c]) := by
  have hk := part_len hi h2
  refine ⟨by have := h.1; omega, hk.2, by rw [List.length_append, List.length_singleton]; have := h.2.2.1; omega, ?_⟩
  rw [h.2.2.2, quo_step hi h1 h2]
  cases quoA s (i + k) with
  | none => rfl
  | some q =>
    simp only [Option.map_some, List.append_assoc, List.singleton_append]
    congr 2
    have := h.1; omega
def quoP (o : Option (Tx × Nat)) : Tx × Nat := match o with
  | some (t, m) => (t, m + 1)
  | none => ([], 0)
theorem quoP_none {o : Option (Tx × Nat)} : (quoP o).2 = 0 ↔ o = none := by
  cases o with
  | none => exact ⟨fun _ => rfl, fun _ => rfl⟩
  | some q => exact ⟨fun h => absurd h (Nat.succ_ne_zero _), fun h => by cases h⟩
theorem get_none {α : Type} {o : Option (α × Nat)} {d : α} (hpos : ∀ c k, o = some (c, k) → 1 ≤ k) (h : (o.getD (d, 0)).2 = 0) : o = none := by
  cases o with
  | none => rfl
  | some q => have := hpos q.1 q.2 rfl; simp at h; omega
theorem get_some {α : Type} {o : Option (α × Nat)} {d : α} (h : ¬ (o.getD (d, 0)).2 = 0) : o = some ((o.getD (d, 0)).1, (o.getD (d, 0)).2) := by
  cases o with
  | none => exact absurd rfl h
  | some q => rfl
theorem esc_pos {r : Tx} {c : UInt8} {k : Nat} (h : escF r = some (c, k)) : 1 ≤ k := by
  unfold escF at h
  cases hp : partF (92 :: r) with
  | none => rw [hp] at h; cases h
  | some q =>
    have : 2 ≤ q.2 := by
      have hpp : partF ((92 :: r).drop 0) = some q := hp
      rw [part_drop (by simp)] at hpp
      unfold partA at hpp
      have e92 : ((92 :: r).getD 0 0).toNat = 92 := rfl
      rw [if_neg (by omega), if_neg (by omega)] at hpp
      split at hpp
      · cases hpp; show 2 ≤ 2; omega
      · split at hpp
        · cases hpp; show 2 ≤ 4; omega
        · cases hpp
    rw [hp] at h; cases h
    show 1 ≤ q.2 - 1; omega
theorem partV_byte {x : Int} {k : Nat} (h : 0 ≤ x ∧ x ≤ 255) : Value.tuple #[.int .u8 x, .int .i64 (k : Int)] = partV (some (UInt8.ofNat x.toNat, k)) := by
  have : ((UInt8.ofNat x.toNat).toNat : Int) = x := by rw [UInt8.toNat_ofNat']; omega
  unfold partV; dsimp only [Option.getD]; rw [this]
theorem part_plain {s : Tx} {a : Nat} (h : a < s.length) (h1 : ¬ ((s.getD a 0).toNat < 32 ∨ 126 < (s.getD a 0).toNat)) (h2 : (s.getD a 0).toNat ≠ 34) (h3 : (s.getD a 0).toNat ≠ 92) : partF (s.drop a) = some (s.getD a 0, 1) := part_one h (by omega) h3
theorem part_escS {s : Tx} {a : Nat} (h : a < s.length) (hc : (s.getD a 0).toNat = 92) (hn : ¬ ((escF (s.drop (a + 1))).getD (0, 0)).2 = 0) : partF (s.drop a) = some (((escF (s.drop (a + 1))).getD (0, 0)).1, ((escF (s.drop (a + 1))).getD (0, 0)).2 + 1) := by
  rw [part_esc h hc]
  have := get_some hn
  rw [this]; rfl
theorem part_escN {s : Tx} {a : Nat} (h : a < s.length) (hc : (s.getD a 0).toNat = 92) (hn : ((escF (s.drop (a + 1))).getD (0, 0)).2 = 0) : partF (s.drop a) = none := by
  rw [part_esc h hc, get_none (fun c k => esc_pos) hn]; rfl
theorem quo_len : ∀ (n : Nat) (s t : Tx) (m : Nat), quoN n s = some (t, m) → 1 ≤ m ∧ m ≤ s.length ∧ t.length + 1 ≤ m
  | 0, s, t, m, h => by cases h
  | n + 1, s, t, m, h => by
    rw [quoN] at h
    split at h
    · cases h
    · rename_i h0
      split at h
      · cases h; simp; omega
      · cases hp : partF s with
        | none => rw [hp] at h; cases h
        | some q =>
          rw [hp] at h; dsimp only at h
          have hk := part_pos (c := q.1) (k := q.2) hp
          cases hr : quoN n (s.drop q.2) with
          | none => rw [hr] at h; cases h
          | some r =>
            rw [hr] at h; cases h
            have := quo_len n _ r.1 r.2 hr
            rw [List.length_drop] at this
            simp only [List.length_cons]; omega
end Go.SK
