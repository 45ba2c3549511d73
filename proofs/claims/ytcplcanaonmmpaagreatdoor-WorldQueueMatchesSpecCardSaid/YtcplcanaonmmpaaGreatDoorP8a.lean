/- A part of the proof. -/
import Derived.Test.YtcplcanaonmmpaaGreatDoorGc
set_option linter.unusedVariables false
set_option linter.unusedSimpArgs false
set_option maxRecDepth 1000000
namespace Go.T9
open Go Go.AM Go.FA
noncomputable def clo8 : List Nat := [8,28,51,81,100,82,42,83,84,101,129,52,53,54,55,56,57,58,29,59,45,60,30,12,36,69,87,102,103,106,137,169,138,170,198,199,242,302,389,468,469,518,390,561,303,562,598,565,600,397,563,227,276,373,601,624,566,564,599,519,567,391,304,393,394,470,392,243,305,306,307,395,396,398,308,311,310,309,312,399,400,401,472,473,471,503,313,402,474,475,521,520,476,408,171,200,201,245,244,314,202,203,246,221,264,358,322,316,257,420,315,247,204,205,248,317,403,477,454,353,437,436,414,439,415,438,441,501,548,237,292,500,412,490,376,375,440,478,522,523,568,524,283,378,281,379,284,380,467,480,479,525,569,603,516,515,560,597,173,320,416,491,279,374,536,583,229,230,231,626,453,428,508,604,627,602,625,634,526,570,404,481,527,571,528,99,127,128,572,605,606,628,607,156,157,608,629,630,635,609,610,611,612,529,530,531,573,613,482,405,483,532,574,576,575,614,533,577,578,579,581,580,534,582,406,484,407,485,459,318,409,486,410,487,411,488,489,535,172,206,249,232,280,377,466,319,413,321,226,275,417,418,272,367,368,457,510,557,511,558,369,458,370,104,130,132,131,160,88,105,133,161,193,197,194,239,295,296,383,195,240,241,301,297,384,299,388,228,277,278,385,386,190,238,293,294,387,300,298,162,196,164,163,134,165,140,166,167,168,135,136,23,40,79,41,80,70,89,90,107,139,108,10,49,91,71,72,74,73,92,93,109,43,142,118,143,141,147,179,213,174,207,144,110,146,145,175,180,214,256,258,259,215,260,352,216,261,217,218,262,219,208,250,323,324,419,422,328,421,492,537,538,447,504,539,493,540,584,423,331,424,325,326,425,494,327,330,329,426,427,251,332,333,334,335,182,220,263,354,355,442,443,356,357,444,445,502,429,431,495,430,176,209,253,252,177,210,211,254,336,337,432,496,338,339,340,341,433,223,266,267,268,359,269,360,446,361,448,505,507,362,363,449,506,549,550,594,551,552,595,596,623,553,554,555,556,450,364,451,452,435,498,543,591,621,622,499,544,592,545,546,593,547,270,434,497,541,585,615,586,587,588,616,589,617,618,542,590,461,512,559,513,619,631,636,637,620,632,633,178,212,187,255,342,343,344,345,346,347,348,224,271,365,455,366,456,509,273,371,460,225,274,372,462,514,463,464,465,517,349,350,351,94,95,96,15,37,39,111,50,112,148,149,181,150,183,222,265,184,185,151,152,186,188,233,282,285,113,114,115,153,189,234,286,235,236,287,381,288,289,382,290,291,116,13,154,191,97,117,75,98,119,120,155,121,122,158,159,192,123,124,125,126,76,77,78]
theorem clo8_ev : cloF leadF 1340 [8] .leaf [] = some clo8 := by kernel_rfl
theorem closure8 : Proofs.Tryz.prog.closure 8 = clo8 := closure_of 1340 nF leads_eq leads_ok (out_of leadF_out) clo_fuel clo8_ev
theorem named8 : Proofs.Tryz.prog.funcNamed "dynamometer/dynamometerlaw8.WorldQueueMatchesSpec" = some 8 := funcNamed_of (by kernel_rfl)
theorem goes8 : Proofs.Tryz.prog.goesAt .entering "dynamometer/dynamometerlaw8.WorldQueueMatchesSpec" = false := goes_of named8 noGo
theorem inPlace8 : Proofs.Tryz.prog.inPlace 8 = ["internal/bytealg.IndexByteString", "internal/bytealg.IndexString", "internal/bytealg.abigen_runtime_cmpstring", "internal/abi.NoEscape", "internal/bytealg.MakeNoZero", "internal/bytealg.CountString", "maps.clone"] := by
 unfold Program.inPlace
 simp only [closure8, hF.2]
 kernel_rfl
theorem unfollowed8 : Proofs.Tryz.prog.unfollowed 8 = true := by
 unfold Program.unfollowed
 simp only [closure8, hF.2]
 kernel_rfl
theorem recurses8 : Proofs.Tryz.prog.recurses 8 = true := recurses_of unfollowed8
theorem varsNamed8 : Proofs.Tryz.prog.varsNamed 8 = ["math/bits.deBruijn64tab", "unicode/utf8.first", "unicode/utf8.acceptRanges", "internal/bytealg.MaxLen", "unicode.asciiFold", "unicode.caseOrbit", "unicode.CaseRanges", "math/bits.divideError", "math/bits.overflowError", "internal/strconv.uint64pow10", "math/bits.deBruijn32tab", "strconv.ErrSyntax", "strconv.ErrRange"] := by
 unfold Program.varsNamed
 simp only [closure8, hF.2]
 kernel_rfl
end Go.T9
