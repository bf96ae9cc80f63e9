/-
  Part 6 of the proof, shared by claims of this seat: C1Pb0.
-/
import Derived.Test.YtakpbpfknnjaaaaGreatC4
import Derived.KernelRfl
set_option maxHeartbeats 64000000
set_option linter.unusedVariables false
set_option linter.unusedSimpArgs false
section
namespace Go.Proofs.W
open Go.Vs Go.Vs.Sn
set_option maxRecDepth 1000000
theorem zk9:K g0 10000 47 zc4 zr2 zm3=some (1,zr7,zm8):=by kernel_rfl
theorem zk21:K g0 10000 47 zc4 zr16 zm3=some (1,zr20,zm8):=by kernel_rfl
theorem zk33:K g0 10000 47 zc4 zr28 zm3=some (1,zr32,zm8):=by kernel_rfl
theorem zk44:K g0 10000 47 zc4 zr39 zm3=some (1,zr43,zm8):=by kernel_rfl
theorem zk55:K g0 10000 47 zc4 zr50 zm3=some (1,zr54,zm8):=by kernel_rfl
theorem zk66:K g0 10000 47 zc4 zr61 zm3=some (1,zr65,zm8):=by kernel_rfl
theorem zk77:K g0 10000 47 zc4 zr72 zm3=some (1,zr76,zm8):=by kernel_rfl
theorem zk88:K g0 10000 47 zc4 zr83 zm3=some (1,zr87,zm8):=by kernel_rfl
theorem zk99:K g0 10000 47 zc4 zr94 zm3=some (1,zr98,zm8):=by kernel_rfl
theorem zk110:K g0 10000 47 zc4 zr105 zm3=some (1,zr109,zm8):=by kernel_rfl
theorem zk121:K g0 10000 47 zc4 zr116 zm3=some (1,zr120,zm8):=by kernel_rfl
theorem zk131:K g0 10000 47 zc4 zr127 zm3=some (1,zr130,zm8):=by kernel_rfl
theorem zk141:K g0 10000 47 zc4 zr137 zm3=some (1,zr140,zm8):=by kernel_rfl
theorem zk151:K g0 10000 47 zc4 zr147 zm3=some (1,zr150,zm8):=by kernel_rfl
theorem zk161:K g0 10000 47 zc4 zr157 zm3=some (1,zr160,zm8):=by kernel_rfl
theorem zk189:K g0 10000 118 zc181 zr180 zm3=some (1,zr186,zm188):=by kernel_rfl
theorem zk200:K g0 10000 118 zc181 zr195 zm3=some (1,zr197,zm199):=by kernel_rfl
theorem zk211:K g0 10000 118 zc181 zr206 zm3=some (1,zr208,zm210):=by kernel_rfl
theorem zk223:K g0 10000 118 zc181 zr217 zm3=some (1,zr220,zm222):=by kernel_rfl
theorem zk241:K g0 10000 118 zc181 zr229 zm3=some (1,zr235,zm240):=by kernel_rfl
theorem zk255:K g0 10000 118 zc181 zr248 zm3=some (1,zr252,zm254):=by kernel_rfl
theorem zk267:K g0 10000 118 zc181 zr261 zm3=some (1,zr264,zm266):=by kernel_rfl
theorem zk276:K g0 10000 118 zc181 zr273 zm3=some (1,zr275,zm188):=by kernel_rfl
theorem zk290:K g0 10000 118 zc181 zr284 zm3=some (1,zr287,zm289):=by kernel_rfl
theorem zk300:K g0 10000 118 zc181 zr297 zm3=some (1,zr299,zm188):=by kernel_rfl
theorem zk318:K g0 10000 147 zc309 zr308 zm3=some (1,zr315,zm317):=by kernel_rfl
theorem zk336:K g0 10000 147 zc309 zr329 zm3=some (1,zr333,zm335):=by kernel_rfl
theorem zk356:K g0 10000 147 zc309 zr346 zm3=some (1,zr353,zm355):=by kernel_rfl
theorem zk371:K g0 10000 147 zc309 zr364 zm3=some (1,zr368,zm370):=by kernel_rfl
theorem zk387:K g0 10000 147 zc309 zr379 zm3=some (1,zr384,zm386):=by kernel_rfl
theorem zk402:K g0 10000 147 zc309 zr395 zm3=some (1,zr399,zm401):=by kernel_rfl
theorem zk416:K g0 10000 147 zc309 zr410 zm3=some (1,zr413,zm415):=by kernel_rfl
theorem zk426:K g0 10000 147 zc309 zr423 zm3=some (1,zr425,zm415):=by kernel_rfl
theorem zk436:K g0 10000 147 zc309 zr432 zm3=some (1,zr435,zm415):=by kernel_rfl
theorem zk446:K g0 10000 147 zc309 zr442 zm3=some (1,zr445,zm415):=by kernel_rfl
theorem zk456:K g0 10000 147 zc309 zr452 zm3=some (1,zr455,zm401):=by kernel_rfl
theorem zk473:K g0 10000 147 zc309 zr464 zm3=some (1,zr470,zm472):=by kernel_rfl
theorem zk490:K g0 10000 147 zc309 zr481 zm3=some (1,zr487,zm489):=by kernel_rfl
theorem zk499:K g0 10000 147 zc309 zr496 zm3=some (1,zr498,zm317):=by kernel_rfl
theorem zk509:K g0 10000 147 zc309 zr505 zm3=some (1,zr508,zm401):=by kernel_rfl
theorem zk524:K g0 10000 147 zc309 zr517 zm3=some (1,zr521,zm523):=by kernel_rfl
theorem zk534:K g0 10000 147 zc309 zr530 zm3=some (1,zr533,zm401):=by kernel_rfl
theorem zk544:K g0 10000 147 zc309 zr540 zm3=some (1,zr543,zm415):=by kernel_rfl
theorem zk560:K g0 10000 147 zc309 zr552 zm3=some (1,zr557,zm559):=by kernel_rfl
theorem zk570:K g0 10000 147 zc309 zr566 zm3=some (1,zr569,zm401):=by kernel_rfl
theorem zk586:K g0 10000 147 zc309 zr578 zm3=some (1,zr583,zm585):=by kernel_rfl
theorem zk602:K g0 10000 147 zc309 zr594 zm3=some (1,zr599,zm601):=by kernel_rfl
theorem zk617:K g0 10000 147 zc309 zr610 zm3=some (1,zr614,zm616):=by kernel_rfl
theorem zk632:K g0 10000 147 zc309 zr625 zm3=some (1,zr629,zm631):=by kernel_rfl
theorem zk642:K g0 10000 147 zc309 zr638 zm3=some (1,zr641,zm631):=by kernel_rfl
theorem zk652:K g0 10000 147 zc309 zr648 zm3=some (1,zr651,zm601):=by kernel_rfl
theorem zk667:K g0 10000 147 zc309 zr660 zm3=some (1,zr664,zm666):=by kernel_rfl
theorem zk676:K g0 10000 147 zc309 zr673 zm3=some (1,zr675,zm601):=by kernel_rfl
theorem zk686:K g0 10000 147 zc309 zr682 zm3=some (1,zr685,zm401):=by kernel_rfl
theorem zk699:K g0 10000 147 zc309 zr694 zm3=some (1,zr696,zm698):=by kernel_rfl
theorem zk709:K g0 10000 147 zc309 zr706 zm3=some (1,zr708,zm698):=by kernel_rfl
theorem zk724:K g0 10000 147 zc309 zr717 zm3=some (1,zr721,zm723):=by kernel_rfl
theorem zk733:K g0 10000 147 zc309 zr730 zm3=some (1,zr732,zm415):=by kernel_rfl
theorem zk742:K g0 10000 147 zc309 zr739 zm3=some (1,zr741,zm415):=by kernel_rfl
theorem zk756:K g0 10000 55 zc750 zr749 zm3=some (1,zr753,zm755):=by kernel_rfl
theorem zk766:K g0 10000 55 zc750 zr762 zm3=some (1,zr765,zm755):=by kernel_rfl
theorem zk776:K g0 10000 55 zc750 zr772 zm3=some (1,zr775,zm755):=by kernel_rfl
theorem zk791:K g0 10000 55 zc750 zr783 zm3=some (1,zr788,zm790):=by kernel_rfl
theorem zk804:K g0 10000 55 zc750 zr798 zm3=some (1,zr803,zm790):=by kernel_rfl
theorem zk826:K g0 10000 24 zc820 zr819 zm3=some (1,zr824,zm825):=by kernel_rfl
theorem zk840:K g0 10000 24 zc820 zr834 zm3=some (1,zr838,zm839):=by kernel_rfl
theorem zk849:K g0 10000 24 zc820 zr846 zm3=some (1,zr848,zm3):=by kernel_rfl
theorem zk860:K g0 10000 24 zc820 zr856 zm3=some (1,zr859,zm839):=by kernel_rfl
theorem zk871:K g0 10000 24 zc820 zr867 zm3=some (1,zr870,zm839):=by kernel_rfl
theorem zk887:K g1 10000 29 zc878 zr877 zm3=some (1,zr881,zm886):=by kernel_rfl
theorem zk900:K g1 10000 29 zc878 zr894 zm3=some (1,zr897,zm899):=by kernel_rfl
theorem zk910:K g1 10000 29 zc878 zr907 zm3=some (1,zr909,zm899):=by kernel_rfl
theorem zk920:K g1 10000 29 zc878 zr915 zm3=some (1,zr917,zm919):=by kernel_rfl
theorem zk936:K g1 10000 36 zc929 zr928 zm3=some (1,zr933,zm935):=by kernel_rfl
theorem zk949:K g1 10000 36 zc929 zr943 zm3=some (1,zr946,zm948):=by kernel_rfl
theorem zk962:K g1 10000 36 zc929 zr956 zm3=some (1,zr959,zm961):=by kernel_rfl
theorem zk975:K g1 10000 36 zc929 zr969 zm3=some (1,zr972,zm974):=by kernel_rfl
theorem zk988:K g1 10000 36 zc929 zr982 zm3=some (1,zr985,zm987):=by kernel_rfl
theorem zk1001:K g1 10000 36 zc929 zr995 zm3=some (1,zr998,zm1000):=by kernel_rfl
theorem zk1014:K g1 10000 36 zc929 zr1008 zm3=some (1,zr1011,zm1013):=by kernel_rfl
theorem zk1027:K g1 10000 36 zc929 zr1021 zm3=some (1,zr1024,zm1026):=by kernel_rfl
theorem zk1039:K g1 10000 36 zc929 zr1034 zm3=some (1,zr1036,zm1038):=by kernel_rfl
theorem zk1052:K g1 10000 36 zc929 zr1046 zm3=some (1,zr1049,zm1051):=by kernel_rfl
theorem zk1064:K g1 10000 36 zc929 zr1059 zm3=some (1,zr1061,zm1063):=by kernel_rfl
theorem zk1076:K g1 10000 36 zc929 zr1071 zm3=some (1,zr1073,zm1075):=by kernel_rfl
theorem zk1089:K g1 10000 36 zc929 zr1083 zm3=some (1,zr1086,zm1088):=by kernel_rfl
theorem zk1102:K g1 10000 36 zc929 zr1096 zm3=some (1,zr1099,zm1101):=by kernel_rfl
theorem zk1116:K g1 10000 36 zc929 zr1109 zm3=some (1,zr1113,zm1115):=by kernel_rfl
theorem zk1129:K g1 10000 36 zc929 zr1123 zm3=some (1,zr1126,zm1128):=by kernel_rfl
theorem zk1143:K g1 10000 36 zc929 zr1136 zm3=some (1,zr1140,zm1142):=by kernel_rfl
theorem zk1156:K g1 10000 36 zc929 zr1150 zm3=some (1,zr1153,zm1155):=by kernel_rfl
theorem zk1170:K g1 10000 36 zc929 zr1163 zm3=some (1,zr1167,zm1169):=by kernel_rfl
theorem zk1184:K g1 10000 36 zc929 zr1177 zm3=some (1,zr1181,zm1183):=by kernel_rfl
theorem zk1196:K g1 10000 36 zc929 zr1191 zm3=some (1,zr1193,zm1195):=by kernel_rfl
theorem zk1209:K g1 10000 36 zc929 zr1203 zm3=some (1,zr1206,zm1208):=by kernel_rfl
theorem zk1221:K g1 10000 36 zc929 zr1216 zm3=some (1,zr1218,zm1220):=by kernel_rfl
theorem zk1234:K g1 10000 36 zc929 zr1228 zm3=some (1,zr1231,zm1233):=by kernel_rfl
theorem zk1247:K g1 10000 36 zc929 zr1241 zm3=some (1,zr1244,zm1246):=by kernel_rfl
theorem zk1260:K g1 10000 36 zc929 zr1254 zm3=some (1,zr1257,zm1259):=by kernel_rfl
theorem zk1272:K g1 10000 36 zc929 zr1267 zm3=some (1,zr1269,zm1271):=by kernel_rfl
theorem zk1285:K g1 10000 36 zc929 zr1279 zm3=some (1,zr1282,zm1284):=by kernel_rfl
theorem zk1298:K g1 10000 36 zc929 zr1292 zm3=some (1,zr1295,zm1297):=by kernel_rfl
theorem zk1311:K g1 10000 36 zc929 zr1305 zm3=some (1,zr1308,zm1310):=by kernel_rfl
theorem zk1323:K g1 10000 36 zc929 zr1318 zm3=some (1,zr1320,zm1322):=by kernel_rfl
theorem zk1336:K g1 10000 36 zc929 zr1330 zm3=some (1,zr1333,zm1335):=by kernel_rfl
theorem zk1349:K g1 10000 36 zc929 zr1343 zm3=some (1,zr1346,zm1348):=by kernel_rfl
theorem zk1361:K g1 10000 36 zc929 zr1356 zm3=some (1,zr1358,zm1360):=by kernel_rfl
theorem zk1373:K g1 10000 36 zc929 zr1368 zm3=some (1,zr1370,zm1372):=by kernel_rfl
theorem zk1385:K g1 10000 36 zc929 zr1380 zm3=some (1,zr1382,zm1384):=by kernel_rfl
theorem zk1397:K g1 10000 36 zc929 zr1392 zm3=some (1,zr1394,zm1396):=by kernel_rfl
theorem zk1409:K g1 10000 36 zc929 zr1404 zm3=some (1,zr1406,zm1408):=by kernel_rfl
theorem zk1421:K g1 10000 36 zc929 zr1416 zm3=some (1,zr1418,zm1420):=by kernel_rfl
theorem zk1433:K g1 10000 36 zc929 zr1428 zm3=some (1,zr1430,zm1432):=by kernel_rfl
theorem zk1445:K g1 10000 36 zc929 zr1440 zm3=some (1,zr1442,zm1444):=by kernel_rfl
theorem zk1458:K g1 10000 36 zc929 zr1452 zm3=some (1,zr1455,zm1457):=by kernel_rfl
theorem zk1470:K g1 10000 36 zc929 zr1465 zm3=some (1,zr1467,zm1469):=by kernel_rfl
theorem zk1482:K g1 10000 36 zc929 zr1477 zm3=some (1,zr1479,zm1481):=by kernel_rfl
theorem zk1494:K g1 10000 36 zc929 zr1489 zm3=some (1,zr1491,zm1493):=by kernel_rfl
theorem zk1507:K g1 10000 36 zc929 zr1501 zm3=some (1,zr1504,zm1506):=by kernel_rfl
theorem zk1520:K g1 10000 36 zc929 zr1514 zm3=some (1,zr1517,zm1519):=by kernel_rfl
theorem zk1532:K g1 10000 36 zc929 zr1527 zm3=some (1,zr1529,zm1531):=by kernel_rfl
theorem zk1544:K g1 10000 36 zc929 zr1539 zm3=some (1,zr1541,zm1543):=by kernel_rfl
theorem zk1557:K g1 10000 36 zc929 zr1551 zm3=some (1,zr1554,zm1556):=by kernel_rfl
theorem zk1571:K g1 10000 36 zc929 zr1564 zm3=some (1,zr1568,zm1570):=by kernel_rfl
theorem zk1583:K g1 10000 36 zc929 zr1578 zm3=some (1,zr1580,zm1582):=by kernel_rfl
theorem zk1597:K g1 10000 36 zc929 zr1590 zm3=some (1,zr1594,zm1596):=by kernel_rfl
theorem zk1611:K g1 10000 36 zc929 zr1604 zm3=some (1,zr1608,zm1610):=by kernel_rfl
theorem zk1623:K g1 10000 36 zc929 zr1618 zm3=some (1,zr1620,zm1622):=by kernel_rfl
theorem zk1636:K g1 10000 36 zc929 zr1630 zm3=some (1,zr1633,zm1635):=by kernel_rfl
theorem zk1648:K g1 10000 36 zc929 zr1643 zm3=some (1,zr1645,zm1647):=by kernel_rfl
theorem zk1661:K g1 10000 36 zc929 zr1655 zm3=some (1,zr1658,zm1660):=by kernel_rfl
theorem zk1674:K g1 10000 36 zc929 zr1668 zm3=some (1,zr1671,zm1673):=by kernel_rfl
theorem zk1686:K g1 10000 36 zc929 zr1681 zm3=some (1,zr1683,zm1685):=by kernel_rfl
theorem zk1699:K g1 10000 36 zc929 zr1693 zm3=some (1,zr1696,zm1698):=by kernel_rfl
theorem zk1712:K g1 10000 36 zc929 zr1706 zm3=some (1,zr1709,zm1711):=by kernel_rfl
theorem zk1724:K g1 10000 36 zc929 zr1719 zm3=some (1,zr1721,zm1723):=by kernel_rfl
theorem zk1736:K g1 10000 36 zc929 zr1731 zm3=some (1,zr1733,zm1735):=by kernel_rfl
theorem zk1748:K g1 10000 36 zc929 zr1743 zm3=some (1,zr1745,zm1747):=by kernel_rfl
theorem zk1761:K g1 10000 36 zc929 zr1755 zm3=some (1,zr1758,zm1760):=by kernel_rfl
theorem zk1774:K g1 10000 36 zc929 zr1768 zm3=some (1,zr1771,zm1773):=by kernel_rfl
theorem zk1786:K g1 10000 36 zc929 zr1781 zm3=some (1,zr1783,zm1785):=by kernel_rfl
theorem zk1798:K g1 10000 36 zc929 zr1793 zm3=some (1,zr1795,zm1797):=by kernel_rfl
theorem zk1810:K g1 10000 36 zc929 zr1805 zm3=some (1,zr1807,zm1809):=by kernel_rfl
theorem zk1822:K g1 10000 36 zc929 zr1817 zm3=some (1,zr1819,zm1821):=by kernel_rfl
theorem zk1834:K g1 10000 36 zc929 zr1829 zm3=some (1,zr1831,zm1833):=by kernel_rfl
theorem zk1846:K g1 10000 36 zc929 zr1841 zm3=some (1,zr1843,zm1845):=by kernel_rfl
theorem zk1858:K g1 10000 36 zc929 zr1853 zm3=some (1,zr1855,zm1857):=by kernel_rfl
theorem zk1870:K g1 10000 36 zc929 zr1865 zm3=some (1,zr1867,zm1869):=by kernel_rfl
theorem zk1883:K g1 10000 36 zc929 zr1877 zm3=some (1,zr1880,zm1882):=by kernel_rfl
theorem zk1896:K g1 10000 36 zc929 zr1890 zm3=some (1,zr1893,zm1895):=by kernel_rfl
theorem zk1909:K g1 10000 36 zc929 zr1903 zm3=some (1,zr1906,zm1908):=by kernel_rfl
theorem zk1921:K g1 10000 36 zc929 zr1916 zm3=some (1,zr1918,zm1920):=by kernel_rfl
theorem zk1933:K g1 10000 36 zc929 zr1928 zm3=some (1,zr1930,zm1932):=by kernel_rfl
theorem zk1945:K g1 10000 36 zc929 zr1940 zm3=some (1,zr1942,zm1944):=by kernel_rfl
theorem zk1958:K g1 10000 36 zc929 zr1952 zm3=some (1,zr1955,zm1957):=by kernel_rfl
theorem zk1970:K g1 10000 36 zc929 zr1965 zm3=some (1,zr1967,zm1969):=by kernel_rfl
theorem zk1980:K g1 10000 15 zc1977 zr1976 zm3=some (1,zr1979,zm3):=by kernel_rfl
theorem zk1989:K g1 10000 15 zc1977 zr1986 zm3=some (1,zr1988,zm3):=by kernel_rfl
theorem zk1998:K g1 10000 15 zc1977 zr1995 zm3=some (1,zr1997,zm3):=by kernel_rfl
theorem zk2007:K g1 10000 15 zc1977 zr2004 zm3=some (1,zr2006,zm3):=by kernel_rfl
theorem zk2016:K g1 10000 15 zc1977 zr2013 zm3=some (1,zr2015,zm3):=by kernel_rfl
theorem zk2029:K g2 10000 51 zc2023 zr2022 zm3=some (1,zr2027,zm2028):=by kernel_rfl
theorem zk2043:K g2 10000 51 zc2023 zr2037 zm3=some (1,zr2041,zm2042):=by kernel_rfl
theorem zk2056:K g2 10000 51 zc2023 zr2050 zm3=some (1,zr2054,zm2055):=by kernel_rfl
theorem zk2069:K g2 10000 51 zc2023 zr2063 zm3=some (1,zr2067,zm2068):=by kernel_rfl
theorem zk2082:K g2 10000 51 zc2023 zr2076 zm3=some (1,zr2080,zm2081):=by kernel_rfl
theorem zk2095:K g2 10000 51 zc2023 zr2089 zm3=some (1,zr2093,zm2094):=by kernel_rfl
theorem zk2108:K g2 10000 51 zc2023 zr2102 zm3=some (1,zr2106,zm2107):=by kernel_rfl
theorem zk2121:K g2 10000 51 zc2023 zr2115 zm3=some (1,zr2119,zm2120):=by kernel_rfl
theorem zk2135:K g2 10000 51 zc2023 zr2128 zm3=some (1,zr2133,zm2134):=by kernel_rfl
theorem zk2151:K g2 10000 51 zc2023 zr2143 zm3=some (1,zr2149,zm2150):=by kernel_rfl
theorem zk2167:K g2 10000 51 zc2023 zr2160 zm3=some (1,zr2165,zm2166):=by kernel_rfl
theorem zk2182:K g2 10000 51 zc2023 zr2175 zm3=some (1,zr2180,zm2181):=by kernel_rfl
theorem zk2197:K g2 10000 51 zc2023 zr2190 zm3=some (1,zr2195,zm2196):=by kernel_rfl
theorem zk2212:K g2 10000 51 zc2023 zr2205 zm3=some (1,zr2210,zm2211):=by kernel_rfl
theorem zk2228:K g2 10000 51 zc2023 zr2221 zm3=some (1,zr2226,zm2227):=by kernel_rfl
theorem zk2243:K g2 10000 51 zc2023 zr2236 zm3=some (1,zr2241,zm2242):=by kernel_rfl
theorem zk2258:K g2 10000 51 zc2023 zr2251 zm3=some (1,zr2256,zm2257):=by kernel_rfl
theorem zk2273:K g2 10000 51 zc2023 zr2266 zm3=some (1,zr2271,zm2272):=by kernel_rfl
theorem zk2288:K g2 10000 51 zc2023 zr2281 zm3=some (1,zr2286,zm2287):=by kernel_rfl
theorem zk2303:K g2 10000 51 zc2023 zr2296 zm3=some (1,zr2301,zm2302):=by kernel_rfl
theorem zk2318:K g2 10000 51 zc2023 zr2311 zm3=some (1,zr2316,zm2317):=by kernel_rfl
theorem zk2333:K g2 10000 51 zc2023 zr2326 zm3=some (1,zr2331,zm2332):=by kernel_rfl
theorem zk2348:K g2 10000 51 zc2023 zr2341 zm3=some (1,zr2346,zm2347):=by kernel_rfl
theorem zk2361:K g2 10000 51 zc2023 zr2355 zm3=some (1,zr2359,zm2360):=by kernel_rfl
theorem zk2376:K g2 10000 51 zc2023 zr2369 zm3=some (1,zr2374,zm2375):=by kernel_rfl
theorem zk2391:K g2 10000 51 zc2023 zr2384 zm3=some (1,zr2389,zm2390):=by kernel_rfl
theorem zk2406:K g2 10000 51 zc2023 zr2399 zm3=some (1,zr2404,zm2405):=by kernel_rfl
theorem zk2421:K g2 10000 51 zc2023 zr2414 zm3=some (1,zr2419,zm2420):=by kernel_rfl
theorem zk2436:K g2 10000 51 zc2023 zr2429 zm3=some (1,zr2434,zm2435):=by kernel_rfl
theorem zk2451:K g2 10000 51 zc2023 zr2444 zm3=some (1,zr2449,zm2450):=by kernel_rfl
theorem zk2466:K g2 10000 51 zc2023 zr2459 zm3=some (1,zr2464,zm2465):=by kernel_rfl
theorem zk2481:K g2 10000 51 zc2023 zr2474 zm3=some (1,zr2479,zm2480):=by kernel_rfl
theorem zk2496:K g2 10000 51 zc2023 zr2489 zm3=some (1,zr2494,zm2495):=by kernel_rfl
theorem zk2511:K g2 10000 51 zc2023 zr2504 zm3=some (1,zr2509,zm2510):=by kernel_rfl
theorem zk2527:K g2 10000 51 zc2023 zr2519 zm3=some (1,zr2525,zm2526):=by kernel_rfl
theorem zk2540:K g2 10000 51 zc2023 zr2534 zm3=some (1,zr2538,zm2539):=by kernel_rfl
theorem zk2553:K g2 10000 51 zc2023 zr2547 zm3=some (1,zr2551,zm2552):=by kernel_rfl
theorem zk2566:K g2 10000 51 zc2023 zr2560 zm3=some (1,zr2564,zm2565):=by kernel_rfl
theorem zk2581:K g2 10000 51 zc2023 zr2574 zm3=some (1,zr2579,zm2580):=by kernel_rfl
theorem zk2594:K g2 10000 51 zc2023 zr2588 zm3=some (1,zr2592,zm2593):=by kernel_rfl
theorem zk2609:K g2 10000 51 zc2023 zr2602 zm3=some (1,zr2607,zm2608):=by kernel_rfl
theorem zk2623:K g2 10000 51 zc2023 zr2616 zm3=some (1,zr2621,zm2622):=by kernel_rfl
theorem zk2636:K g2 10000 51 zc2023 zr2630 zm3=some (1,zr2634,zm2635):=by kernel_rfl
theorem zk2652:K g2 10000 51 zc2023 zr2644 zm3=some (1,zr2650,zm2651):=by kernel_rfl
theorem zk2665:K g2 10000 51 zc2023 zr2659 zm3=some (1,zr2663,zm2664):=by kernel_rfl
theorem zk2681:K g2 10000 51 zc2023 zr2673 zm3=some (1,zr2679,zm2680):=by kernel_rfl
theorem zk2697:K g2 10000 27 zc2689 zr2688 zm3=some (1,zr2693,zm2696):=by kernel_rfl
theorem zk2708:K g2 10000 27 zc2689 zr2704 zm3=some (1,zr2707,zm2696):=by kernel_rfl
theorem zk2718:K g2 10000 27 zc2689 zr2714 zm3=some (1,zr2717,zm2696):=by kernel_rfl
theorem zk2727:K g2 10000 27 zc2689 zr2723 zm3=some (1,zr2726,zm2696):=by kernel_rfl
theorem zk2736:K g2 10000 27 zc2689 zr2732 zm3=some (1,zr2735,zm2696):=by kernel_rfl
theorem zk2746:K g2 10000 27 zc2689 zr2742 zm3=some (1,zr2745,zm2696):=by kernel_rfl
theorem zk2755:K g2 10000 27 zc2689 zr2751 zm3=some (1,zr2754,zm2696):=by kernel_rfl
theorem zk2764:K g2 10000 27 zc2689 zr2760 zm3=some (1,zr2763,zm2696):=by kernel_rfl
theorem zk2775:K g2 10000 27 zc2689 zr2769 zm3=some (1,zr2772,zm2774):=by kernel_rfl
theorem zk2783:K g2 10000 27 zc2689 zr2780 zm3=some (1,zr2782,zm2774):=by kernel_rfl
theorem zk2800:K g3 10000 95 zc2792 zr2791 zm3=some (1,zr2797,zm2799):=by kernel_rfl
theorem zk2815:K g3 10000 95 zc2792 zr2808 zm3=some (1,zr2812,zm2814):=by kernel_rfl
theorem zk2830:K g4 10000 328 (spT 2 zc2822) zr2821 zm3=some (0,zr2829,zm3):=by kernel_rfl
theorem zk2837:K g4 10000 328 (spT 1 zc2834) zr2829 zm3=some (0,zr2836,zm3):=by kernel_rfl
theorem zk2846:KR g4 10000 328 (sL zc2840) false 0 5 zr2836 zm3=some (0,zr2844,zm2845):=by kernel_rfl
theorem zk2853:KR g4 10000 328 (sL zc2840) false 0 5 zr2844 zm2845=some (0,zr2851,zm2852):=by kernel_rfl
theorem zk2860:KR g4 10000 328 (sL zc2840) false 0 5 zr2851 zm2852=some (0,zr2858,zm2859):=by kernel_rfl
theorem zk2867:KR g4 10000 328 (sL zc2840) false 0 5 zr2858 zm2859=some (0,zr2865,zm2866):=by kernel_rfl
theorem zk2874:KR g4 10000 328 (sL zc2840) false 0 5 zr2865 zm2866=some (0,zr2872,zm2873):=by kernel_rfl
theorem zk2881:KR g4 10000 328 (sL zc2840) false 0 5 zr2872 zm2873=some (0,zr2879,zm2880):=by kernel_rfl
theorem zk2888:KR g4 10000 328 (sL zc2840) false 0 5 zr2879 zm2880=some (0,zr2886,zm2887):=by kernel_rfl
theorem zk2893:K g4 10000 328 (sL (sL zc2840)) zr2886 zm2887=some (2,zr2892,zm2887):=by kernel_rfl
theorem zk2915:K g4 10000 328 (spT 1 zc2907) zr2892 zm2887=some (0,zr2914,zm2887):=by kernel_rfl
theorem zk2922:K g4 10000 328 (spT 1 zc2919) zr2914 zm2887=some (0,zr2921,zm2887):=by kernel_rfl
theorem zk2942:KR g4 10000 328 (sL zc2925) false 0 1 zr2921 zm2887=some (0,zr2940,zm2941):=by kernel_rfl
theorem zk2953:KR g4 10000 328 (sL zc2925) false 0 1 zr2940 zm2941=some (0,zr2951,zm2952):=by kernel_rfl
theorem zk2964:KR g4 10000 328 (sL zc2925) false 0 1 zr2951 zm2952=some (0,zr2962,zm2963):=by kernel_rfl
theorem zk2975:KR g4 10000 328 (sL zc2925) false 0 1 zr2962 zm2963=some (0,zr2973,zm2974):=by kernel_rfl
end Go.Proofs.W
end
