/- A part of the proof. -/
import Derived.Test.YtplabpmicdbglaaGreatDoorGc
set_option maxRecDepth 1000000
namespace Go.T9
open Go Go.AM Go.FA
noncomputable def clo3 : List Nat := [3,7,9,30,34,56,57,35,31,8,10,32,36,37,33,11,38,39,12,40,58,73,94,95,101,150,203,151,204,238,239,282,341,424,499,500,548,425,592,342,593,629,596,631,432,594,266,315,408,632,655,597,595,630,549,598,426,343,428,429,501,427,283,344,345,346,430,431,433,347,350,349,348,351,434,435,436,503,504,502,227,352,437,505,506,551,550,565,507,443,205,240,241,285,284,353,242,243,286,260,303,393,361,355,297,455,354,287,244,245,288,356,438,508,485,392,472,471,449,474,450,473,476,533,579,276,331,532,447,522,411,410,475,509,552,553,599,554,322,413,320,414,323,415,498,511,510,555,600,634,546,545,591,628,207,359,451,523,318,409,567,614,268,269,270,657,484,463,538,635,658,633,656,665,556,601,439,512,557,602,558,89,124,125,603,636,637,659,638,172,173,639,660,661,666,640,641,642,643,559,560,561,604,644,513,440,514,562,605,607,516,606,645,563,608,609,610,612,611,564,613,441,515,442,517,490,357,444,518,445,519,446,520,521,566,206,246,289,271,319,412,497,358,448,360,265,314,452,453,311,402,403,488,540,588,541,589,404,489,405,96,143,145,144,194,74,97,146,195,233,237,234,279,334,335,418,235,280,281,340,336,419,338,423,267,316,317,420,421,223,277,332,333,422,339,337,196,236,198,197,147,199,153,200,201,202,148,149,98,75,76,99,100,59,77,78,102,152,103,79,80,81,60,61,63,62,82,83,104,106,155,115,156,154,159,213,253,208,247,157,105,41,158,209,214,254,296,298,299,255,300,391,256,301,257,258,302,259,248,290,362,363,454,457,367,456,524,568,569,478,534,570,525,571,615,458,370,459,364,365,460,526,366,369,368,461,462,291,371,372,373,374,42,68,90,126,127,176,177,128,129,178,179,226,464,466,527,465,210,249,293,292,211,250,251,294,375,376,467,528,377,378,379,380,468,262,305,306,307,394,308,395,477,396,479,535,537,397,398,480,536,580,581,625,582,583,626,627,654,584,585,586,587,481,399,482,483,470,530,574,622,652,653,531,575,623,576,577,624,578,309,469,529,572,616,646,617,618,619,647,620,648,649,573,621,492,542,590,543,650,662,667,668,651,663,664,212,252,220,295,381,382,383,384,385,386,387,263,310,400,486,401,487,539,312,406,491,264,313,407,493,544,494,495,496,547,388,389,390,84,85,86,107,160,161,108,162,109,163,164,215,165,216,261,304,217,218,166,167,219,221,272,321,324,110,111,112,168,222,273,325,274,275,326,416,327,328,417,329,330,113,169,170,224,87,114,64,88,116,117,171,118,119,174,175,225,120,121,122,123,65,66,67]
theorem clo3_ev : cloF leadF 1398 [3] .leaf [] = some clo3 := by kernel_rfl
theorem closure3 : Proofs.Tryz.prog.closure 3 = clo3 := closure_of 1398 nF leads_eq leads_ok (out_of leadF_out) clo_fuel clo3_ev
theorem named3 : Proofs.Tryz.prog.funcNamed "dynamometer/dynamometerlaw8.WorldLogMatchesSpec" = some 3 := funcNamed_of (by kernel_rfl)
theorem goes3 : Proofs.Tryz.prog.goesAt .entering "dynamometer/dynamometerlaw8.WorldLogMatchesSpec" = false := goes_of named3 noGo
theorem inPlace3 : Proofs.Tryz.prog.inPlace 3 = ["internal/bytealg.IndexByteString", "internal/bytealg.IndexString", "internal/bytealg.abigen_runtime_cmpstring", "internal/abi.NoEscape", "internal/bytealg.MakeNoZero", "internal/bytealg.CountString", "maps.clone"] := by
  unfold Program.inPlace
  simp only [closure3, hF.2]
  kernel_rfl
theorem unfollowed3 : Proofs.Tryz.prog.unfollowed 3 = true := by
  unfold Program.unfollowed
  simp only [closure3, hF.2]
  kernel_rfl
theorem recurses3 : Proofs.Tryz.prog.recurses 3 = true := recurses_of unfollowed3
theorem varsNamed3 : Proofs.Tryz.prog.varsNamed 3 = ["math/bits.deBruijn64tab", "unicode/utf8.first", "unicode/utf8.acceptRanges", "internal/bytealg.MaxLen", "unicode.asciiFold", "unicode.caseOrbit", "unicode.CaseRanges", "math/bits.divideError", "math/bits.overflowError", "internal/strconv.uint64pow10", "math/bits.deBruijn32tab", "strconv.ErrSyntax", "strconv.ErrRange"] := by
  unfold Program.varsNamed
  simp only [closure3, hF.2]
  kernel_rfl
end Go.T9
