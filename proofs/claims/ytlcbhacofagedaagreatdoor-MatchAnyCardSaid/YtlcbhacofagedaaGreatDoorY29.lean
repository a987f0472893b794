/-
  lazaretref08.run: its frame, its code's parts, what its round hands on.
-/
import Derived.Test.YtlcbhacofagedaaGreatDoorY27
set_option maxRecDepth 100000
namespace Go.Proofs.YtlcbhacofagedaaGreatDoor
open Go.RowKit
def FR (a0 a1 a2 a3 a4 a5 a6 a7 a8 a9 RO RZ RP RN Sk R4 RS R0 Sx Sv:Value) (f:Nat->Value):Act:=⟨#[a0,a1,a2,a3,a4,a5,a6,a7,a8,a9,RO,RZ,RP,RN,Sk,R4,RS,R0,Sx,Sv,f 20,f 21,f 22,f 23,f 24,f 25,f 26,f 27,f 28,f 29,f 30,f 31,f 32,f 33,f 34,f 35,f 36,f 37,f 38,f 39,f 40,f 41,f 42,f 43,f 44,f 45,f 46,f 47,f 48,f 49,f 50,f 51,f 52,f 53,f 54,f 55,f 56,f 57,f 58,f 59,f 60,f 61,f 62,f 63,f 64,f 65,f 66,f 67,f 68,f 69,f 70,f 71,f 72,f 73,f 74,f 75,f 76,f 77,f 78,f 79,f 80,f 81,f 82,f 83,f 84,f 85,f 86,f 87,f 88,f 89,f 90,f 91,f 92,f 93,f 94,f 95,f 96,f 97,f 98,f 99,f 100,f 101,f 102,f 103,f 104,f 105,f 106,f 107,f 108,f 109,f 110,f 111,f 112,f 113,f 114,f 115,f 116,f 117,f 118,f 119,f 120,f 121,f 122,f 123,f 124,f 125,f 126,f 127,f 128,f 129,f 130,f 131,f 132,f 133,f 134,f 135,f 136,f 137,f 138,f 139,f 140,f 141,f 142,f 143,f 144,f 145,f 146,f 147,f 148,f 149,f 150,f 151,f 152,f 153,f 154,f 155,f 156,f 157,f 158,f 159,f 160,f 161,f 162,f 163,f 164,f 165,f 166,f 167,f 168,f 169,f 170,f 171,f 172,f 173,f 174,f 175,f 176,f 177,f 178,f 179,f 180,f 181,f 182,f 183,f 184,f 185,f 186,f 187,f 188,f 189,f 190,f 191,f 192,f 193,f 194,f 195,f 196,f 197,f 198,f 199,f 200,f 201,f 202,f 203,f 204,f 205,f 206,f 207,f 208,f 209,f 210,f 211,f 212,f 213,f 214,f 215,f 216,f 217,f 218,f 219,f 220,f 221,f 222,f 223,f 224,f 225,f 226,f 227,f 228,f 229,f 230,f 231,f 232,f 233,f 234,f 235,f 236,f 237,f 238,f 239,f 240,f 241,f 242,f 243,f 244,f 245,f 246,f 247,f 248,f 249,f 250,f 251,f 252,f 253,f 254,f 255,f 256,f 257,f 258,f 259,f 260,f 261,f 262,f 263,f 264,f 265,f 266,f 267,f 268,f 269,f 270,f 271,f 272,f 273,f 274,f 275,f 276,f 277,f 278,f 279,f 280,f 281,f 282,f 283,f 284,f 285,f 286,f 287,f 288,f 289,f 290,f 291,f 292,f 293,f 294,f 295,f 296,f 297,f 298,f 299,f 300,f 301,f 302,f 303,f 304,f 305,f 306,f 307,f 308,f 309,f 310,f 311,f 312,f 313,f 314,f 315,f 316,f 317,f 318,f 319,f 320,f 321,f 322,f 323,f 324,f 325,f 326,f 327,f 328,f 329,f 330,f 331,f 332,f 333,f 334,f 335,f 336,f 337,f 338,f 339,f 340,f 341,f 342,f 343,f 344,f 345,f 346,f 347,f 348,f 349,f 350,f 351,f 352,f 353,f 354,f 355,f 356,f 357,f 358,f 359,f 360,f 361,f 362,f 363,f 364,f 365,f 366,f 367,f 368,f 369,f 370,f 371,f 372,f 373,f 374,f 375,f 376,f 377,f 378,f 379,f 380,f 381,f 382,f 383,f 384,f 385,f 386,f 387,f 388,f 389,f 390,f 391,f 392,f 393,f 394,f 395,f 396,f 397,f 398,f 399,f 400,f 401,f 402,f 403,f 404,f 405,f 406,f 407,f 408,f 409,f 410,f 411,f 412,f 413,f 414,f 415,f 416,f 417,f 418,f 419,f 420,f 421,f 422,f 423,f 424,f 425,f 426,f 427,f 428,f 429,f 430,f 431,f 432,f 433,f 434,f 435,f 436,f 437,f 438,f 439,f 440,f 441,f 442,f 443,f 444,f 445,f 446,f 447,f 448,f 449,f 450,f 451,f 452,f 453,f 454,f 455,f 456,f 457,f 458,f 459,f 460,f 461,f 462,f 463,f 464,f 465,f 466,f 467,f 468,f 469,f 470,f 471,f 472,f 473,f 474,f 475,f 476,f 477,f 478,f 479,f 480,f 481,f 482,f 483,f 484,f 485,f 486,f 487,f 488,f 489,f 490,f 491,f 492,f 493,f 494,f 495,f 496,f 497,f 498,f 499,f 500,f 501,f 502,f 503,f 504,f 505,f 506,f 507,f 508,f 509,f 510,f 511,f 512,f 513,f 514,f 515,f 516,f 517,f 518,f 519,f 520,f 521,f 522,f 523,f 524,f 525,f 526,f 527,f 528,f 529,f 530,f 531,f 532,f 533,f 534,f 535,f 536,f 537,f 538,f 539,f 540,f 541,f 542,f 543,f 544,f 545,f 546,f 547,f 548,f 549,f 550,f 551,f 552,f 553,f 554,f 555,f 556,f 557,f 558,f 559,f 560,f 561,f 562,f 563,f 564,f 565,f 566,f 567,f 568,f 569,f 570,f 571,f 572,f 573,f 574,f 575,f 576,f 577,f 578,f 579,f 580,f 581,f 582,f 583,f 584,f 585,f 586,f 587,f 588,f 589,f 590,f 591,f 592,f 593,f 594,f 595,f 596,f 597,f 598,f 599,f 600,f 601,f 602,f 603,f 604,f 605,f 606,f 607,f 608,f 609,f 610,f 611,f 612,f 613,f 614,f 615,f 616,f 617,f 618,f 619,f 620,f 621,f 622,f 623,f 624,f 625,f 626,f 627,f 628,f 629,f 630,f 631,f 632,f 633,f 634,f 635,f 636,f 637,f 638,f 639,f 640,f 641,f 642,f 643,f 644,f 645,f 646,f 647,f 648,f 649,f 650,f 651,f 652,f 653,f 654,f 655,f 656,f 657,f 658,f 659,f 660,f 661,f 662,f 663,f 664,f 665,f 666,f 667,f 668,f 669,f 670,f 671,f 672,f 673,f 674,f 675,f 676,f 677,f 678,f 679,f 680,f 681,f 682,f 683,f 684,f 685,f 686,f 687,f 688,f 689,f 690,f 691,f 692,f 693,f 694,f 695,f 696,f 697,f 698,f 699,f 700,f 701,f 702,f 703,f 704,f 705,f 706,f 707,f 708,f 709,f 710,f 711,f 712,f 713,f 714,f 715,f 716,f 717,f 718,f 719,f 720,f 721,f 722,f 723,f 724,f 725,f 726,f 727,f 728,f 729,f 730,f 731,f 732,f 733,f 734,f 735,f 736,f 737,f 738,f 739,f 740,f 741,f 742,f 743,f 744,f 745,f 746,f 747,f 748,f 749,f 750,f 751,f 752,f 753,f 754,f 755,f 756,f 757,f 758,f 759,f 760,f 761,f 762,f 763,f 764,f 765,f 766,f 767,f 768,f 769,f 770,f 771,f 772,f 773,f 774,f 775,f 776,f 777,f 778,f 779,f 780],[]⟩
theorem pC (n m:Nat) (l:List Value) (h:l.length=m):∃x:Nat->Value,l=(List.range' n m).map x:=
 ⟨fun k=>l.getD (k-n) undef,by
  apply List.ext_getElem
  ·simp[h]
  ·intro i h1 h2
   simp[List.getD_eq_getElem?_getD,h1]⟩
theorem Gu (a0 a1 a2 a3 a4 a5 a6 a7 a8 a9 RO RZ RP RN Sk R4 RS R0 Sx Sv:Value) (l:List Value) (h:l.length=761):∃f,(⟨(a0::a1::a2::a3::a4::a5::a6::a7::a8::a9::RO::RZ::RP::RN::Sk::R4::RS::R0::Sx::Sv::l).toArray,[]⟩:Act)=FR a0 a1 a2 a3 a4 a5 a6 a7 a8 a9 RO RZ RP RN Sk R4 RS R0 Sx Sv f:=by
 obtain⟨f,rfl⟩:=pC 20 761 l h;refine⟨f,?_⟩;unfold FR;simp only[List.range',List.map_cons,List.map_nil]
def cd2:Code->Code| .seq _ y=>y|c=>c
def cd1:Code->Code| .seq x _=>x|c=>c
def cbl:Code->Code| .block _ c=>c|c=>c
def clp:Code->Code| .loop c=>c|c=>c
def cth:Code->Code| .cond _ x _=>x|c=>c
def cel:Code->Code| .cond _ _ y=>y|c=>c
def cbd:Option Code->Code|some c=>c|none=>.skip
def qp (b:Option Code):Code:=clp (cbl (cd2 (cd2 (cd2 (cd2 (cd2 (cd2 (cbd b))))))))
def xg (b:Option Code):Code:=cbl (cd1 (qp b))
def vd (b:Option Code):Code:=cd1 (cd2 (cd2 (cd2 (cd2 (cd2 (cd2 (cd2 (xg b))))))))
def BV (b:Option Code):Nat->Code
 | 0=>cbl (cd2 (vd b))
 | n+1=>cel (cd2 (BV b n))
def MD (b:Option Code) (n:Nat):Code:=cth (cd2 (BV b n))
structure RX where
 s:ByteArray
 goal:Lz.UR
 w0:World
 B:Nat
 M:Nat
 N:Nat
structure RX.Ok (X:RX):Prop where
 size:X.s.size<=25000
 env:de X.w0
 eB:X.B=X.w0.heap.size
 bm:X.B<X.M
 mn:X.M<X.N
structure UAt (X:RX) (w:World) (x:MkV):Prop where
 below:Below X.B X.w0 w
 res:w.heap[X.B]? =some (.cells bC 26 (0,0))
 row:w.heap[X.M]? =some (.cells x.cells 26 (0,0))
 non:w.heap[X.N]? =some (.cells bC 26 (0,0))
 own:aX w X.B x.pv x.xs
def wG (X:RX) (st:Lz.Stt) (w:World) (x:MkV):Prop:=st=.opq->∃G y,X.B<=G/\x.pv=.slice (some ⟨G,0,none⟩) 1 1/\x.xs=[y]/\w.heap[G]? =some (.cells #[.string y] 9 (0,0))
def nmB:Lz.Stt->ByteArray
 | .start=>⟨#[115,116,97,114,116]⟩
 | .scheme=>⟨#[115,99,104,101,109,101]⟩
 | .none=>⟨#[110,111,110,101]⟩
 | .spRel=>⟨#[115,112,101,99,105,97,108,32,114,101,108,97,116,105,118,101]⟩
 | .pa=>⟨#[112,97,116,104,32,111,114,32,97,117,116,104,111,114,105,116,121]⟩
 | .rel=>⟨#[114,101,108,97,116,105,118,101]⟩
 | .relS=>⟨#[114,101,108,97,116,105,118,101,32,115,108,97,115,104]⟩
 | .spSl=>⟨#[115,112,101,99,105,97,108,32,115,108,97,115,104,101,115]⟩
 | .ign=>⟨#[105,103,110,111,114,101]⟩
 | .auth=>⟨#[97,117,116,104,111,114,105,116,121]⟩
 | .host=>⟨#[104,111,115,116]⟩
 | .port=>⟨#[112,111,114,116]⟩
 | .file=>⟨#[102,105,108,101]⟩
 | .fileS=>⟨#[102,105,108,101,32,115,108,97,115,104]⟩
 | .fileH=>⟨#[102,105,108,101,32,104,111,115,116]⟩
 | .pStart=>⟨#[112,97,116,104,32,115,116,97,114,116]⟩
 | .path=>⟨#[112,97,116,104]⟩
 | .opq=>⟨#[111,112,97,113,117,101]⟩
 | .query=>⟨#[113,117,101,114,121]⟩
 | .frag=>⟨#[102,114,97,103,109,101,110,116]⟩
def Nxt (X:RX) (st:Lz.Stt) (i:Nat) (aa5:Bool) (a':Act) (w':World):Prop:=
 ∃(KI:Lz.Stt) (buf:ByteArray) (a p n:Bool) (j:Int) (x:MkV) (u14 u15 u16 u17 u18 u19:Value) (l:List Value),l.length=761/\
  a'=⟨(Value.string X.s::.pointer none::undef::undef::.pointer (some ⟨X.B,0,none⟩)::.int .i64 0::.pointer (some ⟨X.M,0,none⟩)::.pointer (some ⟨X.N,0,none⟩)::.string (nmB KI)::.string buf::.bool a::.bool p::.bool n::.int .i64 j::u14::u15::u16::u17::u18::u19::l).toArray,[]⟩/\
  UAt X w' x/\wG X KI w' x/\(aa5=true->j= -1)/\Lz.aB none X.s.data.toList X.goal st i KI ⟨buf.data.toList,a,p,n,x.url⟩ j
def qM (X:RX) (st:Lz.Stt) (i:Nat):Exit->Act->World->Prop
 | .normal,a',w'=>Nxt X st i false a' w'
 | .exit 1,a',w'=>Nxt X st i true a' w'
 | .ret,a',w'=>∃(n:Nat) (a0 a1 a2 a3:Value) (l:List Value),X.goal=.er n/\l.length=775/\a'=⟨(a0::a1::a2::a3::.pointer (some ⟨X.B,0,none⟩)::.int .i64 n::l).toArray,[]⟩/\Below X.B X.w0 w'/\w'.heap[X.B]? =some (.cells bC 26 (0,0))
 | _,_,_=>False
def kc (k:Nat) (st:Lz.Stt):Prop:=∀(X:RX) (x:MkV) (buf:ByteArray) (a p n:Bool) (i:Nat) (e:Bool) (c nx:UInt8) (sp sl ov:Bool) (f:Nat->Value) (w:World),
 X.Ok->UAt X w x->wG X st w x->Lz.bS none X.s.data.toList X.goal ⟨buf.data.toList,a,p,n,x.url⟩ i st->sp=Lz.ae x.url.scheme->Lz.Rd X.s.data.toList sp i e c nx sl ov->
 (MD Tryz.f9.body k).wp Tryz.prog (qM X st i) (FR (.string X.s) (.pointer none) undef undef (.pointer (some ⟨X.B,0,none⟩)) (.int .i64 0) (.pointer (some ⟨X.M,0,none⟩)) (.pointer (some ⟨X.N,0,none⟩)) (.string (nmB st)) (.string buf) (.bool a) (.bool p) (.bool n) (.int .i64 i) (.bool e) (.int .u8 c.toNat) (.int .u8 nx.toNat) (.bool sp) (.bool sl) (.bool ov) f) w
theorem UAt.call {X:RX} {w w':World} {x:MkV} (hX:X.Ok) (h:UAt X w x) (hb:Below w.heap.size w w'):UAt X w' x:=
 ⟨h.below.trans (hb.mono (by rw[hX.eB];exact h.below.size)),(hb.block _ (aI h.res)).trans h.res,(hb.block _ (aI h.row)).trans h.row,(hb.block _ (aI h.non)).trans h.non,h.own.below hb⟩
theorem yO:26≠9:=by decide
theorem UAt.set {X:RX} {w:World} {x x':MkV} (hX:X.Ok) (h:UAt X w x) (k:Nat) (v:Value) (hc:x.cells.setIfInBounds k v=x'.cells) (hp:aX w X.B x'.pv x'.xs):UAt X (w.setCell ⟨X.M,k,none⟩ v) x':=
 ⟨h.below.setCell (p:=⟨X.M,k,none⟩) (Nat.le_of_lt hX.bm) _,by rw[cp (by have:=hX.bm;show X.B≠X.M;omega)];exact h.res,gF h.row k v hc,by rw[cp (by have:=hX.mn;show X.N≠X.M;omega)];exact h.non,hp.setCell h.row yO k v⟩
theorem UAt.setF {X:RX} {w:World} {x:MkV} (hX:X.Ok) (h:UAt X w x) (k:Nat) (v:Value) (x':MkV) (hc:x.cells.setIfInBounds k v=x'.cells) (h1:x'.pv=x.pv) (h2:x'.xs=x.xs):UAt X (w.setCell ⟨X.M,k,none⟩ v) x':=
 h.set hX k v hc (by rw[h1,h2];exact h.own)
theorem UAt.cell {X:RX} {w:World} {x:MkV} (h:UAt X w x) (k:Nat) (v:Value) (hv:x.cells[k]? =some v):w.cell? ⟨X.M,k,none⟩=some v:=rowAt h.row k v hv
theorem UAt.fz {X:RX} {w:World} {x:MkV} (h:UAt X w x) (k:Nat):w.frozen? ⟨X.M,k,none⟩=false:=bP h.row k
theorem UAt.env {X:RX} {w:World} {x:MkV} (hX:X.Ok) (h:UAt X w x):de w:=hX.env.below (by rw[<-hX.eB];exact h.below)
theorem UAt.hB {X:RX} {w:World} {x:MkV} (hX:X.Ok) (h:UAt X w x):X.B<=w.heap.size:=by rw[hX.eB];exact h.below.size
theorem aM {X:RX} {st:Lz.Stt} {w:World} {x:MkV} (h:st≠.opq):wG X st w x:=fun e=>absurd e h
end Go.Proofs.YtlcbhacofagedaaGreatDoor
